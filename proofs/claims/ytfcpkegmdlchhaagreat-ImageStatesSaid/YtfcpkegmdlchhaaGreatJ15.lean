/- Texts joined: VsP KnP Sort Merge SymM Wins Law18 Best. -/
import Derived.Test.YtfcpkegmdlchhaaGreatJ14
import Derived.Test.YtfcpkegmdlchhaaGreatJ06
import Derived.Test.YtfcpkegmdlchhaaGreatJ13
import Derived.Test.YtfcpkegmdlchhaaGreatJ08
import Derived.Test.YtfcpkegmdlchhaaGreatJ09
set_option maxRecDepth 10000
set_option maxHeartbeats 8000000
namespace Go.Proofs.YtfcpkegmdlchhaaGreat
open Go.RowKit
theorem knsOk_init {l:List Kn} {k:Kn} (h:knsOk (l ++ [k])):knsOk l:=fun i hi hi'=>by
 have h1:=h i (by simp;omega) (by simp;omega)
 have e1:(l ++ [k])[i]'(by simp;omega) = l[i]:=List.getElem_append_left hi
 rw [e1] at h1
 refine ⟨h1.1,h1.2.1,h1.2.2.1,h1.2.2.2.1,fun q=>?_⟩
 have:=h1.2.2.2.2 q
 rw [List.getElem_append_left (by omega)] at this
 exact this
theorem knsOk_last {l:List Kn} {k:Kn} (h:knsOk (l ++ [k])):∀ (d i:Nat) (hi:i < l.length) (_:i + d + 1 = l.length),l[i].rep < k.rep:=by
 intro d
 induction d with
 | zero=>
   intro i hi hd
   have:=(h (i + 1) (by simp;omega) (by simp;omega)).2.2.2.2 (by omega)
   simp only [Nat.add_sub_cancel] at this
   rw [List.getElem_append_left hi,List.getElem_append_right (by omega)] at this
   simpa using this
 | succ d ihd=>
   intro i hi hd
   have:=(h (i + 1) (by simp;omega) (by simp;omega)).2.2.2.2 (by omega)
   simp only [Nat.add_sub_cancel] at this
   rw [List.getElem_append_left hi,List.getElem_append_left (by omega)] at this
   have:=ihd (i + 1) (by omega) (by omega)
   omega
theorem tabAt_none {l:List Kn} {r:Nat} (h:∀ x ∈ l,x.rep ≠ (r:Int) + 1):tabAt l r = []:=by
 unfold tabAt
 rw [List.flatMap_eq_nil_iff]
 intro x hx
 rw [if_neg (h x hx)]
theorem setFrom_nils:∀ (T:List (List Rn)) (i:Nat),(∀ l ∈ T,l = []) → setFrom id i T = []:=by
 intro T
 induction T with
 | nil=>intro i _;rfl
 | cons l T ih=>
   intro i h
   have:=h l List.mem_cons_self
   subst this
   rw [setFrom,ih _ (fun l hl=>h l (List.mem_cons_of_mem _ hl))]
   rfl
theorem vsOf_right (s:List Kn) (h:knsOk s):vsOf id s = s:=by
 induction s using snoc_ind with
 | h0=>exact setFrom_nils _ _ (fun l hl=>by
     obtain ⟨r,_,rfl⟩:=List.mem_map.1 hl
     rfl)
 | h1 l k ih=>
   have hl:=knsOk_init h
   have ih:=ih hl
   obtain ⟨a1,a2,a3,a4⟩:=knsOk_get h (i:=l.length) (by simp)
   rw [show (l ++ [k])[l.length]'(by simp) = k by simp] at a1 a2 a3 a4
   obtain ⟨r,hr⟩:∃ r:Nat,k.rep = (r:Int) + 1:=⟨(k.rep - 1).toNat,by omega⟩
   have hlt:∀ x ∈ l,x.rep < k.rep:=fun x hx=>by
     obtain ⟨i,hi,rfl⟩:=List.getElem_of_mem hx
     exact knsOk_last h (l.length - 1 - i) i hi (by omega)
   have hn:∀ j,r ≤ j → tabAt l j = []:=fun j hj=>tabAt_none (fun x hx=>by have:=hlt x hx;omega)
   have hr16:r < 16:=by omega
   unfold vsOf at ih ⊢
   rw [tabOf_in l k hr16 hr,hn r (Nat.le_refl _),List.nil_append]
   have hsp:tabOf l = (tabOf l).take r ++ ([] :: (tabOf l).drop (r + 1)):=by
     have hg:=tabOf_get l hr16
     rw [hn r (Nat.le_refl _)] at hg
     obtain ⟨hlen,hg⟩:=List.getElem?_eq_some_iff.1 hg
     conv=>lhs;rw [← List.take_append_drop r (tabOf l),List.drop_eq_getElem_cons hlen,hg]
   have hlen:((tabOf l).take r).length = r:=by rw [List.length_take,tabOf_len];omega
   have hnil:∀ x ∈ (tabOf l).drop (r + 1),x = []:=fun x hx=>by
     obtain ⟨i,hi,rfl⟩:=List.getElem_of_mem hx
     rw [List.getElem_drop]
     have hi':r + 1 + i < 16:=by rw [List.length_drop,tabOf_len] at hi;omega
     have:=tabOf_get l hi'
     obtain ⟨_,hg⟩:=List.getElem?_eq_some_iff.1 this
     rw [hg];exact hn _ (by omega)
   rw [hsp,setFrom_app,hlen] at ih
   rw [setFrom,setFrom_nils _ _ hnil] at ih
   rw [List.set_eq_take_append_cons_drop,if_pos (by rw [tabOf_len];exact hr16),setFrom_app,hlen,setFrom,setFrom_nils _ _ hnil,Nat.zero_add]
   rw [show (if (id ([]:List Rn)).length = 0 then ([]:List Kn) else [⟨((0 + r:Nat):Int) + 1,id []⟩]) = [] from rfl,List.append_nil,List.append_nil] at ih
   rw [ih,if_neg (by simpa using a3),List.append_nil]
   congr 1
   rw [show id k.runs = k.runs from rfl,← hr]
section
theorem vs_Of_ok (s:List Kn) (hs:knsTot s) (h:knsOk s):Fn Tryz.prog 161 [knsB s] (.own 132 2 (s.map knP)):=by
 have h1:=vs_Of id s hs (fun l hl=>by
   have hok:=tab_rnsOk h l hl
   obtain ⟨r,_,rfl⟩:=List.mem_map.1 hl
   exact cnt_Of_ok _ (by have:=tabAt_len s r;have:=hs.2;omega) hok)
 rw [vsOf_right s h] at h1
 exact h1
theorem vs_Same_ok (a b:List Kn) (ha:knsTot a) (hb:knsTot b) (h:knsOk a) (h':knsOk b):Fn Tryz.prog 116 [knsB a,knsB b] (boR (decide (a = b))):=
 vs_Same a b a b (vs_Of_ok a ha h) (vs_Of_ok b hb h') ha.sz
end
end Go.Proofs.YtfcpkegmdlchhaaGreat
namespace Go.Proofs.YtfcpkegmdlchhaaGreat
/-! ### sets -/
theorem knsOk_nil:knsOk []:=fun i hi=>by simp at hi
theorem knsOk_cons (k:Kn) (l:List Kn):knsOk (k :: l) ↔ (1 ≤ k.rep ∧ k.rep ≤ 16 ∧ k.runs ≠ [] ∧ rnsOk k.runs) ∧ (∀ q,l.head? = some q → k.rep < q.rep) ∧ knsOk l:=by
 constructor
 · intro h
   have h0:=h 0 (by simp) (by simp)
   refine ⟨⟨h0.1,h0.2.1,h0.2.2.1,h0.2.2.2.1⟩,fun q hq=>?_,fun i hi hi'=>?_⟩
   · cases l with
     | nil=>cases hq
     | cons z l=>
       cases hq
       exact (h 1 (by simp) (by simp)).2.2.2.2 (by omega)
   · have h1:=h (i + 1) (by simpa using hi) (by simpa using hi)
     simp only [List.getElem_cons_succ,Nat.add_sub_cancel] at h1
     refine ⟨h1.1,h1.2.1,h1.2.2.1,h1.2.2.2.1,fun h0=>?_⟩
     have h2:=h1.2.2.2.2 (by omega)
     obtain ⟨j,rfl⟩:∃ j,i = j + 1:=⟨i - 1,by omega⟩
     exact h2
 · rintro ⟨⟨h1,h2,h2',h2''⟩,h3,h4⟩ i hi hi'
   cases i with
   | zero=>exact ⟨h1,h2,h2',h2'',fun q=>absurd q (Nat.lt_irrefl _)⟩
   | succ i=>
     have h5:=h4 i (by simpa using hi) (by simpa using hi)
     simp only [List.getElem_cons_succ,Nat.add_sub_cancel]
     refine ⟨h5.1,h5.2.1,h5.2.2.1,h5.2.2.2.1,fun _=>?_⟩
     cases i with
     | zero=>
       cases l with
       | nil=>simp at hi
       | cons z l=>exact h3 z rfl
     | succ i=>exact h5.2.2.2.2 (by omega)
theorem setFrom_ok:∀ (T:List (List Rn)) (i:Nat),i + T.length ≤ 16 → knsOk (setFrom ofR i T) ∧ ∀ q,(setFrom ofR i T).head? = some q → (i:Int) < q.rep:=by
 intro T
 induction T with
 | nil=>intro i _;exact ⟨knsOk_nil,fun q hq=>by cases hq⟩
 | cons l T ih=>
   intro i hi
   rw [List.length_cons] at hi
   obtain ⟨h1,h2⟩:=ih (i + 1) (by omega)
   rw [setFrom]
   by_cases c:(ofR l).length = 0
   · rw [if_pos c,List.nil_append]
     exact ⟨h1,fun q hq=>by have:=h2 q hq;omega⟩
   · rw [if_neg c]
     refine ⟨(knsOk_cons _ _).2 ⟨⟨by simp only;omega,by simp only;omega,fun e=>c (by simp only at e;rw [e];rfl),ofR_ok l⟩,fun q hq=>?_,h1⟩,fun q hq=>?_⟩
     · have:=h2 q hq;simp only;omega
     · cases hq;simp only;omega
theorem vsOf_ok (s:List Kn):knsOk (vsOf ofR s):=(setFrom_ok _ 0 (by rw [tabOf_len];omega)).1
/-- two sets, replica by replica -/
def mkSet (g:List Rn → List Rn → List Rn) (a b:List Kn):List Kn:=setFrom id 0 (List.zipWith g (tabOf a) (tabOf b))
def orR (a b:List Rn):List Rn:=opR (byR (fun x y=>x || y) a b) a b
theorem orR_eq (a b:List Rn):orR a b = ofR (a ++ b):=opR_or a b
theorem setFrom_map:∀ (T:List (List Rn)) (i:Nat),setFrom id i (T.map ofR) = setFrom ofR i T:=by
 intro T
 induction T with
 | nil=>intro i;rfl
 | cons l T ih=>intro i;rw [List.map_cons,setFrom,setFrom,ih];rfl
theorem tabOf_app (a b:List Kn):tabOf (a ++ b) = List.zipWith (· ++ ·) (tabOf a) (tabOf b):=by
 apply List.ext_getElem?
 intro i
 by_cases hi:i < 16
 · rw [tabOf_get _ hi,List.getElem?_zipWith,tabOf_get _ hi,tabOf_get _ hi]
   simp only
   unfold tabAt
   rw [List.flatMap_append]
 · rw [List.getElem?_eq_none (by rw [tabOf_len];omega),List.getElem?_eq_none (by rw [List.length_zipWith,tabOf_len,tabOf_len];omega)]
theorem zip_congr {g h:List Rn → List Rn → List Rn}:∀ (T U:List (List Rn)),(∀ t u,t ∈ T → u ∈ U → g t u = h t u) → List.zipWith g T U = List.zipWith h T U:=by
 intro T
 induction T with
 | nil=>intro U _;rfl
 | cons t T ih=>
   intro U hh
   cases U with
   | nil=>rfl
   | cons u U=>
     rw [List.zipWith_cons_cons,List.zipWith_cons_cons,hh t u (by simp) (by simp),ih U (fun t u a b=>hh t u (List.mem_cons_of_mem _ a) (List.mem_cons_of_mem _ b))]
/-! ### what is known of a text -/
def atK (k:List Pc) (s:ByteArray):List Kn:=vsOf ofR (k.flatMap fun p=>if rgHas p.rg s then p.set else [])
theorem atK_ok (k:List Pc) (s:ByteArray):knsOk (atK k s):=vsOf_ok _
/-! ### edges -/
def rgsOf (k:List Pc):List Rg:=k.map Pc.rg
def edgK (k:List Pc):List ByteArray:=edgT [emB] (rgsOf k)
theorem edgK_up (k:List Pc):upT (edgK k):=edgT_up _ _ (by simp)
theorem rgHas_mid {r:Rg} {e n:ByteArray} (hen:e ≤ n) (h:∀ m,isEdge r m → m ≤ e ∨ n < m):rgHas r e = rgHas r n:=by
 cases c:rgR r with
 | false=>unfold rgHas;rw [c];rfl
 | true=>
   rw [Bool.eq_iff_iff,rgHas_iff c,rgHas_iff c]
   have h1:=h r.lo ⟨c,.inl rfl⟩
   cases o:r.op with
   | true=>
     constructor
     · rintro ⟨a,_⟩;exact ⟨by grind,.inl rfl⟩
     · rintro ⟨a,_⟩;exact ⟨by grind,.inl rfl⟩
   | false=>
     have h2:=h r.hi ⟨c,.inr ⟨o,rfl⟩⟩
     constructor
     · rintro ⟨a,b|b⟩
       · cases b
       · exact ⟨by grind,.inr (by grind)⟩
     · rintro ⟨a,b|b⟩
       · cases b
       · exact ⟨by grind,.inr (by grind)⟩
theorem atK_mid {k:List Pc} {e n:ByteArray} (hen:e ≤ n) (h:∀ p ∈ k,∀ m,isEdge p.rg m → m ≤ e ∨ n < m):atK k e = atK k n:=by
 unfold atK
 congr 1
 rw [List.flatMap_def,List.flatMap_def]
 congr 1
 exact List.map_congr_left fun p hp=>by rw [rgHas_mid hen (h p hp)]
/-! ### made right, joined, less -/
section
variable {P:Program} {n:Nat} {ops:Array Oper} {o:Oper} {S:St}
end
/-- no key is too long -/
def kOk (l:List It):Prop:=∀ x ∈ l,x.key.size ≤ 1000000000
theorem set_at {α:Type} (A:List α) (x y:α) (T:List α) (j:Nat) (hj:j = A.length):(A ++ x :: T).set j y = A ++ y :: T:=by
 subst hj;simp
theorem snoc_cases {α:Type} (l:List α):l = [] ∨ ∃ (l':List α) (y:α),l = l' ++ [y]:=by
 rcases List.eq_nil_or_concat l with h|⟨a,y,h⟩
 · exact .inl h
 · exact .inr ⟨a,y,by rw [h];simp⟩
theorem map_set' {α β:Type} (f:α → β) (l:List α) (j:Nat) (y:α):(l.map f).set j (f y) = (l.set j y).map f:=by rw [List.map_set]
section
end
section
end
section
variable {P:Program} {n t:Nat} {ops:Array Oper} {o:Oper} {S:St}
end
def ltK (x y:It):Bool:=decide (cmpB x.key y.key < 0)
theorem cmpL_lt:∀ (a b c:List UInt8),cmpL a a = 0 ∧ (cmpL a b < 0 → cmpL b c < 0 → cmpL a c < 0) ∧ (¬ cmpL a b < 0 → ¬ cmpL b c < 0 → ¬ cmpL a c < 0):=by
 intro a
 induction a with
 | nil=>intro b c;cases b <;> cases c <;> simp [cmpL]
 | cons x a ih=>
   intro b c
   refine ⟨by simp [cmpL,(ih a a).1],?_⟩
   cases b with
   | nil=>cases c <;> simp [cmpL]
   | cons y b=>
     cases c with
     | nil=>simp [cmpL]
     | cons z c=>
       obtain ⟨_,h1,h2⟩:=ih b c
       simp only [cmpL]
       refine ⟨?_,?_⟩
       · intro q1 q2
         split at q1
         · split at q2
           · rw [if_pos (by omega)];decide
           · split at q2
             · omega
             · rw [if_pos (by omega)];decide
         · split at q1
           · omega
           · split at q2
             · rw [if_pos (by omega)];decide
             · split at q2
               · omega
               · rw [if_neg (by omega),if_neg (by omega)];exact h1 q1 q2
       · intro q1 q2
         split at q1
         · omega
         · split at q1
           · split at q2
             · omega
             · rw [if_neg (by omega)]
               split
               · decide
               · omega
           · split at q2
             · omega
             · split at q2
               · rw [if_neg (by omega),if_pos (by omega)];decide
               · rw [if_neg (by omega),if_neg (by omega)];exact h2 q1 q2
theorem ltK_wo:SWo ltK:=by
 refine ⟨fun x=>?_,fun x y z h1 h2=>?_,fun x y z h1 h2=>?_⟩
 · exact decide_eq_false (by have:=(cmpL_lt x.key.data.toList [] []).1;unfold cmpB;omega)
 · exact decide_eq_true ((cmpL_lt x.key.data.toList y.key.data.toList z.key.data.toList).2.1 (of_decide_eq_true h1) (of_decide_eq_true h2))
 · exact decide_eq_false ((cmpL_lt x.key.data.toList y.key.data.toList z.key.data.toList).2.2 (of_decide_eq_false h1) (of_decide_eq_false h2))
section
end
end Go.Proofs.YtfcpkegmdlchhaaGreat
namespace Go.Proofs.YtfcpkegmdlchhaaGreat
open Go.RowKit
section
end
end Go.Proofs.YtfcpkegmdlchhaaGreat
namespace Go.Proofs.YtfcpkegmdlchhaaGreat
open Go.RowKit
theorem ltK_t {x y:It}:ltK x y = true ↔ cmpB x.key y.key < 0:=by unfold ltK;exact decide_eq_true_iff
section
end
end Go.Proofs.YtfcpkegmdlchhaaGreat
namespace Go.Proofs.YtfcpkegmdlchhaaGreat
open Go.RowKit
section
end
end Go.Proofs.YtfcpkegmdlchhaaGreat
namespace Go.Proofs.YtfcpkegmdlchhaaGreat
open Go.RowKit
section
end
end Go.Proofs.YtfcpkegmdlchhaaGreat
namespace Go.Proofs.YtfcpkegmdlchhaaGreat
open Go.RowKit
section
/-- blocks that are sorted, each as long as the others -/
def Blks (n:Nat) (Bs:List (List It)):Prop:=∀ B ∈ Bs,B.length = n ∧ Srt ltK B
theorem Blks.len {n:Nat} {Bs:List (List It)} (h:Blks n Bs):Bs.flatten.length = Bs.length * n:=by
 induction Bs with
 | nil=>simp
 | cons B Bs ih=>
   rw [List.flatten_cons,List.length_append,ih (fun B' hB=>h B' (List.mem_cons_of_mem _ hB)),(h B List.mem_cons_self).1,List.length_cons,Nat.succ_mul];omega
theorem Alk.len {α:Type} {lt:α → α → Bool} (h:SWo lt) {M N:List α} (ha:Alk lt M N):N.length = M.length:=by
 have:=congrArg List.length (srtS_alk h ha)
 rw [srtS_len,srtS_len] at this;exact this.symm
end
section
end
section
variable {P:Program} {n t:Nat} {ops:Array Oper} {o:Oper} {S:St}
end
section
end
/-- of two, the one that wins; the first, if neither does -/
def comb:Option It → Option It → Option It
 | none,b=>b
 | some a,none=>some a
 | some a,some b=>if cmpI b a > 0 then some b else some a
def lkF (b:Option It) (x:It):Option It:=comb b (some x)
/-- the one that wins of a key -/
def lookK (k:ByteArray) (l:List It):Option It:=(l.filter fun x=>x.key == k).foldl lkF none
/-! ### keys in order -/
theorem cmpL_anti:∀ (a b:List UInt8),cmpL b a = - cmpL a b ∧ (cmpL a b = 0 → a = b):=by
 intro a
 induction a with
 | nil=>intro b;cases b <;> simp [cmpL]
 | cons x a ih=>
   intro b
   cases b with
   | nil=>simp [cmpL]
   | cons y b=>
     obtain ⟨h1,h2⟩:=ih b
     simp only [cmpL]
     refine ⟨?_,?_⟩
     · split
       · split
         · omega
         · rfl
       · split
         · rfl
         · exact h1
     · split
       · intro h;cases h
       · split
         · intro h;cases h
         · intro h
           rw [h2 h,show x = y from UInt8.toNat_inj.1 (by omega)]
theorem cmpB_eq (s t:ByteArray):cmpB s t = 0 ↔ s = t:=by
 constructor
 · intro h
   have:=(cmpL_anti s.data.toList t.data.toList).2 h
   cases s;cases t;simp only at this;rw [Array.toList_inj.1 this]
 · rintro rfl
   exact (cmpL_lt s.data.toList [] []).1
theorem cmpB_anti (s t:ByteArray):cmpB t s = - cmpB s t:=(cmpL_anti _ _).1
theorem eqv_key (x y:It):eqv ltK x y = (y.key == x.key):=by
 have h1:=cmpB_eq y.key x.key
 have h2:=cmpB_anti y.key x.key
 rw [Bool.eq_iff_iff,sbeq,← h1]
 unfold eqv ltK
 simp only [Bool.and_eq_true,Bool.not_eq_true',decide_eq_false_iff_not]
 omega
theorem eqv_fun (x:It):eqv ltK x = fun y=>y.key == x.key:=funext (eqv_key x)
/-- keys that rise -/
def Up (l:List It):Prop:=l.Pairwise fun x y=>ltK x y = true
theorem Up.srt {l:List It} (h:Up l):Srt ltK l:=h.imp fun h=>ltK_wo.asym h
theorem ltK_ne {x y:It} (h:ltK x y = true):x.key ≠ y.key:=fun e=>by
 rw [ltK_t,e,(cmpB_eq _ _).2 rfl] at h;omega
theorem Up.filter {l:List It} (h:Up l) (k:ByteArray):l.filter (fun x=>x.key == k) = (lookK k l).toList:=by
 unfold lookK
 suffices hs:∃ o:Option It,l.filter (fun x=>x.key == k) = o.toList by
   obtain ⟨o,ho⟩:=hs
   rw [ho];cases o <;> rfl
 induction l with
 | nil=>exact ⟨none,rfl⟩
 | cons x l ih=>
   have h':=List.pairwise_cons.1 h
   rw [List.filter_cons]
   split
   · rename_i hx
     rw [sbeq] at hx
     refine ⟨some x,?_⟩
     rw [List.filter_eq_nil_iff.2 (fun y hy e=>by
       rw [sbeq] at e
       exact ltK_ne (h'.1 y hy) (hx.trans e.symm))]
     rfl
   · exact ih h'.2
theorem Up.uniq {M N:List It} (hM:Up M) (hN:Up N) (h:∀ k,lookK k M = lookK k N):M = N:=
 Srt.uniq ltK_wo hM.srt hN.srt fun x=>by simp only [eqv_fun];rw [hN.filter,hM.filter,h]
end Go.Proofs.YtfcpkegmdlchhaaGreat
