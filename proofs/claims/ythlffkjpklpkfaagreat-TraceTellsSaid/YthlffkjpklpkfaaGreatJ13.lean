/- Texts joined: Law10P KnT Kn. -/
import Derived.Test.YthlffkjpklpkfaaGreatJ12
import Derived.Test.YthlffkjpklpkfaaGreatJ07
set_option maxRecDepth 10000
set_option maxHeartbeats 8000000
namespace Go.Proofs.YthlffkjpklpkfaaGreat
open Go.RowKit
theorem ls_put {α:Type} {st:List UInt8 → Int → α × List UInt8 × Int} {B:α → List UInt8}:∀ (l acc:List α) (r:List UInt8),(∀ x ∈ l,∀ r,st (B x ++ r) 0 = (x,r,0)) → lsSt st l.length acc (l.flatMap B ++ r) 0 = (acc ++ l,r,0):=by
 intro l
 induction l with
 | nil=>intro acc r _;simp [lsSt]
 | cons x l ih=>
   intro acc r h
   rw [List.length_cons,lsSt,if_neg (by simp),List.flatMap_cons,List.append_assoc,h x List.mem_cons_self]
   rw [ih _ _ (fun y hy=>h y (List.mem_cons_of_mem _ hy))]
   simp
theorem ls_back {α:Type} {st:List UInt8 → Int → α × List UInt8 × Int} {B:α → List UInt8} (h:∀ l e,(st l e).2.2 = 0 → e = 0 ∧ l = B (st l e).1 ++ (st l e).2.1) :
   ∀ (n:Nat) (acc:List α) (l:List UInt8) (e:Int),(lsSt st n acc l e).2.2 = 0 → e = 0 ∧ ∃ m:List α,(lsSt st n acc l e).1 = acc ++ m ∧ m.length = n ∧ l = m.flatMap B ++ (lsSt st n acc l e).2.1:=by
 intro n
 induction n with
 | zero=>intro acc l e h0;exact ⟨h0,[],by simp [lsSt],rfl,by simp [lsSt]⟩
 | succ n ih=>
   intro acc l e h0
   unfold lsSt at h0 ⊢
   by_cases he:e = 0
   · subst he
     rw [if_neg (by simp)] at h0 ⊢
     obtain ⟨g1,m,g2,g3,g4⟩:=ih _ _ _ h0
     obtain ⟨_,r2⟩:=h l 0 g1
     refine ⟨rfl,(st l 0).1 :: m,by rw [g2];simp,by simp [g3],?_⟩
     rw [List.flatMap_cons,List.append_assoc,← g4]
     exact r2
   · rw [if_pos he] at h0
     exact absurd h0 he
theorem list_put {α:Type} {st:List UInt8 → Int → α × List UInt8 × Int} {B:α → List UInt8} {ok:List α → Prop} [DecidablePred ok] {most:Int} {l:List α} (h:∀ x ∈ l,∀ r,st (B x ++ r) 0 = (x,r,0)) (hl:(l.length:Int) ≤ most) (hm:most ≤ 1000000) (hok:ok l) :
   finL ok (lisSt st most (numI (l.length:Nat) ++ l.flatMap B) 0) = (l,0):=by
 unfold lisSt
 rw [within_put (by unfold okNum;omega) (by omega) hl]
 dsimp only
 rw [Int.toNat_natCast]
 have:=ls_put (st:=st) (B:=B) l [] [] h
 rw [List.append_nil] at this
 rw [this]
 simp [finL,endSt,hok]
theorem list_back {α:Type} {st:List UInt8 → Int → α × List UInt8 × Int} {B:α → List UInt8} {ok:List α → Prop} [DecidablePred ok] {most:Int} {b:List UInt8} (h:∀ l e,(st l e).2.2 = 0 → e = 0 ∧ l = B (st l e).1 ++ (st l e).2.1)
   (h0:(finL ok (lisSt st most b 0)).2 = 0):ok (finL ok (lisSt st most b 0)).1 ∧ ((finL ok (lisSt st most b 0)).1.length:Int) ≤ most ∧ numI ((finL ok (lisSt st most b 0)).1.length:Nat) ++ (finL ok (lisSt st most b 0)).1.flatMap B = b:=by
 unfold finL at h0 ⊢
 split at h0
 · rename_i hc;exact absurd h0 hc
 · rename_i hc
   rw [if_neg hc]
   split at h0
   · rename_i hk
     rw [if_pos hk]
     obtain ⟨e1,e2⟩:=end_back (by simpa using hc)
     unfold lisSt at e1 e2 hk ⊢
     obtain ⟨g1,m,g3,g4,g6⟩:=ls_back h _ _ _ _ e2
     obtain ⟨_,w2,w3,w4,w5⟩:=within_back g1
     refine ⟨hk,?_,?_⟩
     · rw [g3];simp;omega
     · rw [e1,List.append_nil] at g6
       simp only [g3,List.nil_append]
       rw [g4,← g6,Int.toNat_of_nonneg w3,← w5]
   · cases h0
theorem ba_eq {s:ByteArray}:ba s.data.toList = s:=ba_eta s
theorem rg_put {r:Rg} (h:rgR r = true) (x:List UInt8):rgSt (rgB r ++ x) 0 = (r,x,0):=by
 obtain ⟨h1,h2,h3⟩:=(rgR_iff r).1 h
 obtain ⟨lo,hi,op⟩:=r
 simp only at h1 h2 h3
 dsimp only [rgSt,rgB]
 cases op with
 | true=>
   simp only [if_true] at h3 ⊢
   subst h3
   rw [List.append_assoc,text_put (by omega) (by omega)]
   dsimp only
   rw [within_put (by unfold okNum;omega) (by omega) (by omega)]
   dsimp only
   rw [if_pos (by decide),ba_eq]
 | false=>
   simp only [Bool.false_eq_true,if_false]
   rw [List.append_assoc,text_put (by omega) (by omega)]
   dsimp only
   rw [List.append_assoc,within_put (by unfold okNum;omega) (by omega) (by omega)]
   dsimp only
   rw [if_neg (by decide),text_put (by omega) (by omega)]
   dsimp only
   rw [ba_eq,ba_eq]
theorem rg_back {l:List UInt8} {e:Int} (h:(rgSt l e).2.2 = 0):e = 0 ∧ l = rgB (rgSt l e).1 ++ (rgSt l e).2.1:=by
 dsimp only [rgSt] at h ⊢
 split at h
 · rename_i ho
   rw [if_pos ho]
   obtain ⟨o1,_,_,_,o5⟩:=within_back h
   obtain ⟨t1,_,t3⟩:=text_back o1
   rw [beq_iff_eq] at ho
   rw [ho] at o5
   refine ⟨t1,?_⟩
   simp only [rgB,if_true]
   rw [List.append_assoc,← o5]
   exact t3
 · rename_i ho
   rw [if_neg ho]
   obtain ⟨h1,_,h3⟩:=text_back h
   obtain ⟨o1,_,o3,o4,o5⟩:=within_back h1
   obtain ⟨t1,_,t3⟩:=text_back o1
   have ho':(withinSt 0 1 (textSt 17 l e).2.1 (textSt 17 l e).2.2).1 = 0:=by
     have:(withinSt 0 1 (textSt 17 l e).2.1 (textSt 17 l e).2.2).1 ≠ 1:=by simpa using ho
     omega
   rw [ho'] at o5
   refine ⟨t1,?_⟩
   simp only [rgB,Bool.false_eq_true,if_false]
   rw [List.append_assoc,List.append_assoc]
   unfold ba
   rw [← h3,← o5]
   exact t3
theorem rdRgs_put {l:List Rg} (h:rgsOk l) (hl:l.length ≤ 4096):rdRgs (rgsBy l) = (l,0):=
 list_put (fun x hx r=>by
   obtain ⟨i,hi,rfl⟩:=List.getElem_of_mem hx
   exact rg_put (rgsOk_R h hi) r) (by omega) (by omega) h
theorem rdRgs_back {b:List UInt8} (h:(rdRgs b).2 = 0):rgsOk (rdRgs b).1 ∧ ((rdRgs b).1.length:Int) ≤ 4096 ∧ rgsBy (rdRgs b).1 = b:=list_back (fun _ _=>rg_back) h
theorem flat_len {α:Type} {B:α → List UInt8}:∀ l:List α,(∀ x ∈ l,(B x).length ≤ 40) → (l.flatMap B).length ≤ 40 * l.length:=by
 intro l
 induction l with
 | nil=>intro _;simp
 | cons x l ih=>
   intro h
   have h1:=h x List.mem_cons_self
   have h2:=ih (fun y hy=>h y (List.mem_cons_of_mem _ hy))
   rw [List.flatMap_cons,List.length_append,List.length_cons];omega
theorem rgsBy_len {l:List Rg} (h:rgsOk l) (hl:l.length ≤ 4096):(rgsBy l).length ≤ 10 + 40 * l.length:=by
 have h1:=flat_len (B:=rgB) l (fun x hx=>by
   obtain ⟨i,hi,rfl⟩:=List.getElem_of_mem hx
   exact rgB_len (rgsOk_R h hi))
 have h2:=numI_len (l.length:Int) (by omega)
 unfold rgsBy
 rw [List.length_append];omega
structure Rn where
 fr:Int
 to:Int
deriving DecidableEq
structure Kn where
 rep:Int
 runs:List Rn
deriving DecidableEq
structure Pc where
 rg:Rg
 set:List Kn
deriving DecidableEq
def encRn (r:Rn):List Value:=[.int .i64 r.fr,.int .i64 r.to]
theorem encRn_ok:Enc 2 encRn:=⟨by decide,fun _=>rfl,fun x u hu=>by
 simp only [encRn,List.mem_cons,List.not_mem_nil,or_false] at hu
 rcases hu with rfl|rfl <;> rfl⟩
abbrev rnP (r:Rn):List PV:=[rawP (.int .i64 r.fr),rawP (.int .i64 r.to)]
abbrev rnC (r:Rn):Cnt:=.per (aggP (rnP r))
abbrev rnsP (l:List Rn):PV:=lstP 2 (l.map rnP)
abbrev rnsB (l:List Rn):Cnt:=.bor 2 (l.map rnP)
abbrev knP (k:Kn):List PV:=[rawP (.int .i64 k.rep),rnsP k.runs]
abbrev knC (k:Kn):Cnt:=.per (aggP (knP k))
abbrev knsP (l:List Kn):PV:=lstP 2 (l.map knP)
abbrev knsB (l:List Kn):Cnt:=.bor 2 (l.map knP)
abbrev pcP (p:Pc):List PV:=[rawP (.string p.rg.lo),rawP (.string p.rg.hi),rawP (.bool p.rg.op),knsP p.set]
abbrev pcC (p:Pc):Cnt:=.per (aggP (pcP p))
abbrev pcsP (l:List Pc):PV:=lstP 4 (l.map pcP)
abbrev pcsB (l:List Pc):Cnt:=.bor 4 (l.map pcP)
/-- right runs -/
def rnR (r:Rn):Bool:=decide (1 ≤ r.fr ∧ r.fr ≤ r.to ∧ r.to ≤ 1099511627776)
theorem rnR_iff (r:Rn):rnR r = true ↔ 1 ≤ r.fr ∧ r.fr ≤ r.to ∧ r.to ≤ 1099511627776:=by unfold rnR;exact decide_eq_true_iff
def rnOk (l:List Rn) (i:Nat):Prop:=∀ h:i < l.length,rnR l[i] = true ∧ ∀ h0:0 < i,l[i - 1].to + 2 ≤ l[i].fr
def rnsOk (l:List Rn):Prop:=∀ i,i < l.length → rnOk l i
/-- right sets -/
def knOk (l:List Kn) (i:Nat):Prop:=∀ h:i < l.length,1 ≤ l[i].rep ∧ l[i].rep ≤ 16 ∧ l[i].runs ≠ [] ∧ rnsOk l[i].runs ∧ ∀ h0:0 < i,l[i - 1].rep < l[i].rep
def knsOk (l:List Kn):Prop:=∀ i,i < l.length → knOk l i
/-- right knowledge -/
def pcOk (l:List Pc) (i:Nat):Prop:=∀ h:i < l.length,rgR l[i].rg = true ∧ l[i].set ≠ [] ∧ knsOk l[i].set ∧ ∀ h0:0 < i,l[i - 1].rg.op = false ∧ cmpB l[i - 1].rg.hi l[i].rg.lo ≤ 0 ∧ ¬ (l[i - 1].rg.hi = l[i].rg.lo ∧ l[i - 1].set = l[i].set)
def pcsOk (l:List Pc):Prop:=∀ i,i < l.length → pcOk l i
instance (l:List Rn) (i:Nat):Decidable (rnOk l i):=by unfold rnOk;infer_instance
instance (l:List Rn):Decidable (rnsOk l):=by unfold rnsOk;infer_instance
instance (l:List Kn) (i:Nat):Decidable (knOk l i):=by unfold knOk;infer_instance
instance (l:List Kn):Decidable (knsOk l):=by unfold knsOk;infer_instance
instance (l:List Pc) (i:Nat):Decidable (pcOk l i):=by unfold pcOk;infer_instance
instance (l:List Pc):Decidable (pcsOk l):=by unfold pcsOk;infer_instance
theorem knsOk_get {l:List Kn} (h:knsOk l) {i:Nat} (hi:i < l.length):1 ≤ l[i].rep ∧ l[i].rep ≤ 16 ∧ l[i].runs ≠ [] ∧ rnsOk l[i].runs:=
 let ⟨a,b,c,d,_⟩:=h i hi hi;⟨a,b,c,d⟩
theorem knsOk_rise {l:List Kn} (h:knsOk l):∀ i (hi:i < l.length),((i:Int) + 1) ≤ l[i].rep:=by
 intro i
 induction i with
 | zero=>intro hi;have:=(knsOk_get h hi).1;simpa using this
 | succ i ih=>
   intro hi
   have h1:=ih (by omega)
   have h2:=(h (i + 1) hi hi).2.2.2.2 (by omega)
   simp only [Nat.add_sub_cancel] at h2
   omega
theorem knsOk_len {l:List Kn} (h:knsOk l):l.length ≤ 16:=by
 rcases Nat.eq_zero_or_pos l.length with h0|h0
 · omega
 · have h1:=knsOk_rise h (l.length - 1) (by omega)
   have h2:=(knsOk_get h (i:=l.length - 1) (by omega)).2.1
   omega
theorem rnsOk_get {l:List Rn} (h:rnsOk l) {i:Nat} (hi:i < l.length):1 ≤ l[i].fr ∧ l[i].fr ≤ l[i].to ∧ l[i].to ≤ 1099511627776:=(rnR_iff _).1 (h i hi hi).1
/-! ### bytes -/
def runsB:Int → List Rn → List UInt8
 | _,[]=>[]
 | was,r :: l=>numI (r.fr - was) ++ (numI (r.to - r.fr) ++ runsB r.to l)
def knB (k:Kn):List UInt8:=numI k.rep ++ (numI (k.runs.length:Nat) ++ runsB 0 k.runs)
def setB (s:List Kn):List UInt8:=numI (s.length:Nat) ++ s.flatMap knB
def pcB (p:Pc):List UInt8:=rgB p.rg ++ setB p.set
def knowB (k:List Pc):List UInt8:=numI (k.length:Nat) ++ k.flatMap pcB
/-! ### read -/
def rnsSt:Nat → List Rn → Int → List UInt8 → Int → List Rn × List UInt8 × Int
 | 0,acc,_,l,e=>(acc,l,e)
 | n + 1,acc,was,l,e=>if e ≠ 0 then (acc,l,e) else
   let x:=numSt l e
   let y:=numSt x.2.1 x.2.2
   rnsSt n (acc ++ [⟨was + x.1,was + x.1 + y.1⟩]) (was + x.1 + y.1) y.2.1 y.2.2
def knSt (l:List UInt8) (e:Int):Kn × List UInt8 × Int:=
 let a:=withinSt 1 16 l e
 let n:=withinSt 0 4096 a.2.1 a.2.2
 let r:=rnsSt n.1.toNat [] 0 n.2.1 n.2.2
 (⟨a.1,r.1⟩,r.2.1,r.2.2)
def pcSt (l:List UInt8) (e:Int):Pc × List UInt8 × Int:=
 let r:=rgSt l e
 let s:=lisSt knSt 16 r.2.1 r.2.2
 (⟨r.1,s.1⟩,s.2.1,s.2.2)
def rdKnow (b:List UInt8):List Pc × Int:=finL pcsOk (lisSt pcSt 4096 b 0)
theorem numSt_within (l:List UInt8) (e:Int):withinSt 0 281474976710656 l e = numSt l e:=by
 have h:=rdNum_rng l
 unfold withinSt numSt
 split
 · rw [if_neg];simp only;omega
 · rename_i he
   by_cases h0:(rdNum l).2.2 = 0
   · simp [h0];omega
   · simp [h0]
theorem numSt_rng (l:List UInt8) (e:Int):0 ≤ (numSt l e).1 ∧ (numSt l e).1 ≤ 281474976710656:=by
 have h:=rdNum_rng l
 unfold numSt
 split
 · simp
 · split <;> simp <;> omega
theorem rnsSt_suf:∀ (n:Nat) (acc:List Rn) (was:Int) (l:List UInt8) (e:Int),(rnsSt n acc was l e).2.1 <:+ l:=by
 intro n
 induction n with
 | zero=>intro acc was l e;exact List.suffix_refl l
 | succ n ih=>
   intro acc was l e
   unfold rnsSt
   split
   · exact List.suffix_refl l
   · exact (ih _ _ _ _).trans ((numSt_suf _ _).trans (numSt_suf _ _))
theorem knSt_suf (l:List UInt8) (e:Int):(knSt l e).2.1 <:+ l:=by
 dsimp only [knSt]
 exact (rnsSt_suf _ _ _ _ _).trans ((withinSt_suf _ _ _ _).trans (withinSt_suf _ _ _ _))
theorem lisSt_suf {α:Type} {st:List UInt8 → Int → α × List UInt8 × Int} (h:∀ l e,(st l e).2.1 <:+ l) (most:Int) (l:List UInt8) (e:Int):(lisSt st most l e).2.1 <:+ l:=
 (lsSt_suf h _ _ _ _).trans (withinSt_suf _ _ _ _)
/-! ### put and read -/
theorem runs_put:∀ (l acc:List Rn) (was:Int) (r:List UInt8),0 ≤ was → was ≤ 1099511627776 → (∀ i (h:i < l.length),rnR l[i] = true ∧ (∀ h0:0 < i,l[i - 1].to ≤ l[i].fr) ∧ (i = 0 → was ≤ l[i].fr)) →
   rnsSt l.length acc was (runsB was l ++ r) 0 = (acc ++ l,r,0):=by
 intro l
 induction l with
 | nil=>intro acc was r _ _ _;simp [rnsSt,runsB]
 | cons x l ih=>
   intro acc was r h0 h1 h
   have hx:=h 0 (by simp)
   simp only [List.getElem_cons_zero] at hx
   have hr:=(rnR_iff _).1 hx.1
   have hw:=hx.2.2 trivial
   rw [List.length_cons,rnsSt,if_neg (by simp),runsB,List.append_assoc,num_put (by unfold okNum;omega)]
   dsimp only
   rw [List.append_assoc,num_put (by unfold okNum;omega)]
   dsimp only
   have e1:was + (x.fr - was) = x.fr:=by omega
   have e2:x.fr + (x.to - x.fr) = x.to:=by omega
   rw [e1,e2,ih _ _ _ (by omega) (by omega) (fun i hi=>?_)]
   · simp
   · have hi':=h (i + 1) (by simpa using hi)
     simp only [List.getElem_cons_succ] at hi'
     refine ⟨hi'.1,fun q=>?_,fun q=>?_⟩
     · have:=hi'.2.1 (by omega)
       obtain ⟨j,rfl⟩:∃ j,i = j + 1:=⟨i - 1,by omega⟩
       simpa using this
     · subst q
       have:=hi'.2.1 (by omega)
       simpa using this
theorem kn_put {k:Kn} (h1:1 ≤ k.rep) (h2:k.rep ≤ 16) (h3:rnsOk k.runs) (hf:k.runs.length ≤ 4096) (r:List UInt8):knSt (knB k ++ r) 0 = (k,r,0):=by
 dsimp only [knSt,knB]
 rw [List.append_assoc,within_put (by unfold okNum;omega) h1 h2]
 dsimp only
 rw [List.append_assoc,within_put (by unfold okNum;omega) (by omega) (by omega)]
 dsimp only
 rw [Int.toNat_natCast,runs_put _ _ _ _ (by omega) (by omega) (fun i hi=>?_)]
 · simp
 · have h4:=h3 i hi hi
   have h5:=rnsOk_get h3 hi
   exact ⟨h4.1,fun q=>by have:=h4.2 q;omega,fun _=>by omega⟩
def fewS (s:List Kn):Prop:=∀ k ∈ s,k.runs.length ≤ 4096
theorem lis_put {α:Type} {st:List UInt8 → Int → α × List UInt8 × Int} {B:α → List UInt8} {most:Int} {l:List α} (h:∀ x ∈ l,∀ r,st (B x ++ r) 0 = (x,r,0)) (hl:(l.length:Int) ≤ most) (hm:most ≤ 1000000) (r:List UInt8) :
   lisSt st most (numI (l.length:Nat) ++ (l.flatMap B ++ r)) 0 = (l,r,0):=by
 unfold lisSt
 rw [within_put (by unfold okNum;omega) (by omega) hl]
 dsimp only
 rw [Int.toNat_natCast]
 have:=ls_put (st:=st) (B:=B) l [] r h
 rw [this]
 simp
theorem pc_put {p:Pc} (h1:rgR p.rg = true) (h2:knsOk p.set) (h3:fewS p.set) (r:List UInt8):pcSt (pcB p ++ r) 0 = (p,r,0):=by
 dsimp only [pcSt,pcB,setB]
 rw [List.append_assoc,rg_put h1]
 dsimp only
 rw [List.append_assoc,lis_put (fun k hk r=>?_) (by have:=knsOk_len h2;omega) (by omega)]
 obtain ⟨i,hi,rfl⟩:=List.getElem_of_mem hk
 obtain ⟨a,b,_,d⟩:=knsOk_get h2 hi
 exact kn_put a b d (h3 _ hk) r
theorem rdKnow_put {k:List Pc} (h:pcsOk k) (hf:∀ p ∈ k,fewS p.set) (hl:k.length ≤ 4096):rdKnow (knowB k) = (k,0):=
 list_put (fun p hp r=>by
   obtain ⟨i,hi,rfl⟩:=List.getElem_of_mem hp
   obtain ⟨a,_,c,_⟩:=h i hi hi
   exact pc_put a c (hf _ hp) r) (by omega) (by omega) h
theorem runs_back:∀ (n:Nat) (acc:List Rn) (was:Int) (l:List UInt8) (e:Int),(rnsSt n acc was l e).2.2 = 0 →
   e = 0 ∧ ∃ m:List Rn,(rnsSt n acc was l e).1 = acc ++ m ∧ m.length = n ∧ l = runsB was m ++ (rnsSt n acc was l e).2.1:=by
 intro n
 induction n with
 | zero=>intro acc was l e h0;exact ⟨h0,[],by simp [rnsSt],rfl,by simp [rnsSt,runsB]⟩
 | succ n ih=>
   intro acc was l e h0
   unfold rnsSt at h0 ⊢
   by_cases he:e = 0
   · subst he
     rw [if_neg (by simp)] at h0 ⊢
     dsimp only at h0 ⊢
     obtain ⟨g1,m,g2,g3,g4⟩:=ih _ _ _ _ h0
     obtain ⟨y1,_,y3⟩:=num_back g1
     obtain ⟨_,_,x3⟩:=num_back y1
     refine ⟨rfl,_ :: m,by rw [g2];simp;rfl,by simp [g3],?_⟩
     rw [runsB]
     simp only
     rw [show was + (numSt l 0).1 - was = (numSt l 0).1 by omega,show was + (numSt l 0).1 + (numSt (numSt l 0).2.1 (numSt l 0).2.2).1 - (was + (numSt l 0).1) = (numSt (numSt l 0).2.1 (numSt l 0).2.2).1 by omega]
     rw [List.append_assoc,List.append_assoc,← g4,← y3]
     exact x3
   · rw [if_pos he] at h0
     exact absurd h0 he
theorem kn_back {l:List UInt8} {e:Int} (h:(knSt l e).2.2 = 0):e = 0 ∧ l = knB (knSt l e).1 ++ (knSt l e).2.1:=by
 dsimp only [knSt] at h ⊢
 obtain ⟨g1,m,g2,g3,g4⟩:=runs_back _ _ _ _ _ h
 obtain ⟨n1,_,n3,n4,n5⟩:=within_back g1
 obtain ⟨a1,_,_,_,a5⟩:=within_back n1
 refine ⟨a1,?_⟩
 simp only [knB]
 rw [g2,List.nil_append,g3,Int.toNat_of_nonneg n3,List.append_assoc,List.append_assoc,← g4,← n5]
 exact a5
theorem lis_back {α:Type} {st:List UInt8 → Int → α × List UInt8 × Int} {B:α → List UInt8} {most:Int} (h:∀ l e,(st l e).2.2 = 0 → e = 0 ∧ l = B (st l e).1 ++ (st l e).2.1) {l:List UInt8} {e:Int} (h0:(lisSt st most l e).2.2 = 0) :
   e = 0 ∧ ((lisSt st most l e).1.length:Int) ≤ most ∧ l = numI ((lisSt st most l e).1.length:Nat) ++ ((lisSt st most l e).1.flatMap B ++ (lisSt st most l e).2.1):=by
 unfold lisSt at h0 ⊢
 obtain ⟨g1,m,g3,g4,g6⟩:=ls_back h _ _ _ _ h0
 obtain ⟨w1,w2,w3,w4,w5⟩:=within_back g1
 refine ⟨w1,by rw [g3];simp;omega,?_⟩
 rw [g3,List.nil_append,g4,Int.toNat_of_nonneg w3,← g6]
 exact w5
theorem pc_back {l:List UInt8} {e:Int} (h:(pcSt l e).2.2 = 0):e = 0 ∧ l = pcB (pcSt l e).1 ++ (pcSt l e).2.1:=by
 dsimp only [pcSt] at h ⊢
 obtain ⟨s1,_,s3⟩:=lis_back (fun _ _=>kn_back) h
 obtain ⟨r1,r2⟩:=rg_back s1
 refine ⟨r1,?_⟩
 simp only [pcB,setB]
 rw [List.append_assoc,List.append_assoc,← s3]
 exact r2
theorem rdKnow_back {b:List UInt8} (h:(rdKnow b).2 = 0):pcsOk (rdKnow b).1 ∧ ((rdKnow b).1.length:Int) ≤ 4096 ∧ knowB (rdKnow b).1 = b:=list_back (fun _ _=>pc_back) h
theorem rnsSt_len:∀ (n:Nat) (acc:List Rn) (was:Int) (l:List UInt8) (e:Int),(rnsSt n acc was l e).1.length ≤ acc.length + n:=by
 intro n
 induction n with
 | zero=>intro acc was l e;simp [rnsSt]
 | succ n ih=>
   intro acc was l e
   unfold rnsSt
   split
   · simp
   · have:=ih (acc ++ [⟨was + (numSt l e).1,was + (numSt l e).1 + (numSt (numSt l e).2.1 (numSt l e).2.2).1⟩]) (was + (numSt l e).1 + (numSt (numSt l e).2.1 (numSt l e).2.2).1) (numSt (numSt l e).2.1 (numSt l e).2.2).2.1 (numSt (numSt l e).2.1 (numSt l e).2.2).2.2
     simp at this ⊢;omega
theorem up_step {p:Nat → Prop} {z:Nat} (h:∀ i,i < z → p i) (h':p z):∀ i,i < z + 1 → p i:=fun i hi=>by
 rcases Nat.lt_or_ge i z with q|q
 · exact h i q
 · obtain rfl:i = z:=by omega
   exact h'
def knsSz (s:List Kn):Prop:=s.length ≤ 1000000000 ∧ ∀ k ∈ s,k.runs.length ≤ 1000000000
theorem knsSz.at {s:List Kn} (h:knsSz s) {i:Nat} (hi:i < s.length):s[i].runs.length ≤ 1000000000:=h.2 _ (List.getElem_mem hi)
section
theorem cnt_one (r:Rn):Fn Tryz.prog 182 [rnC r] (boR (rnR r)):=by
 refine fi Tryz.func182 Tryz.ntmps182 ?_
 (repeat' (first|refine AW_seq ?_|refine AW_block ?_|refine AW_skip ?_|refine AW_exit ?_|refine AW_ret ?_|refine AW_region ?_|refine AW_draw mixed0 ?_|refine AL_nil ?_|refine AD_nil (by kernel_rfl) ?_|refine thenA_n ?_|refine thenA_r ?_|refine thenA_e ?_|refine inB_n ?_|refine inB_r ?_|refine inB_hit ?_|refine inB_miss rfl ?_|(refine AW_cond_per rfl rfl (fun hc=>?_) (fun hc=>?_) <;> (try rw [Bool.not_eq_true'] at hc) <;> (try rw [Bool.not_eq_false'] at hc) <;> (try first|rw [decide_eq_true_eq] at hc|rw [decide_eq_false_iff_not] at hc|rw [beq_iff_eq] at hc|rw [beq_eq_false_iff_ne] at hc|rw [bne_iff_ne] at hc|rw [bne_eq_false_iff_eq] at hc) <;> (repeat rw [List.length_map] at hc) <;> (try first|contradiction|(exfalso;omega)|(exfalso;simp [*] at hc;done)))|((first|apply AL_t rfl|apply AL_0 rfl|apply AD_t rfl|apply AD_0 rfl);focus (first|exact o_auto))))
 refine rt1 ?_
 refine rv_per (per_bool ?_)
 rw [rnR,Bool.eq_iff_iff];simp;omega
theorem rcnt_One (r:Rn):Fn Tryz.prog 161 [rnC r] (boR (rnR r)):=by
 refine fi Tryz.func161 Tryz.ntmps161 ?_
 (repeat' (first|refine AW_seq ?_|refine AW_block ?_|refine AW_skip ?_|refine AW_exit ?_|refine AW_ret ?_|refine AW_region ?_|refine AW_draw mixed0 ?_|refine AL_nil ?_|refine AD_nil (by kernel_rfl) ?_|refine thenA_n ?_|refine thenA_r ?_|refine thenA_e ?_|refine inB_n ?_|refine inB_r ?_|refine inB_hit ?_|refine inB_miss rfl ?_|(refine AW_cond_per rfl rfl (fun hc=>?_) (fun hc=>?_) <;> (try rw [Bool.not_eq_true'] at hc) <;> (try rw [Bool.not_eq_false'] at hc) <;> (try first|rw [decide_eq_true_eq] at hc|rw [decide_eq_false_iff_not] at hc|rw [beq_iff_eq] at hc|rw [beq_eq_false_iff_ne] at hc|rw [bne_iff_ne] at hc|rw [bne_eq_false_iff_eq] at hc) <;> (repeat rw [List.length_map] at hc) <;> (try first|contradiction|(exfalso;omega)|(exfalso;simp [*] at hc;done)))|((first|apply AL_t rfl|apply AL_0 rfl|apply AD_t rfl|apply AD_0 rfl);focus (first|exact o_auto))))
 refine rt1 ?_
 refine rv_per (per_bool ?_)
 rw [rnR,Bool.eq_iff_iff];simp;omega
theorem cnt_Right (l:List Rn) (hl:l.length ≤ 1000000000) (b:Bool) (hb:b = true ↔ rnsOk l):Fn Tryz.prog 173 [rnsB l] (boR b):=by
 refine fi Tryz.func173 Tryz.ntmps173 ?_
 (refine w0 ?_;(repeat' first|refine W2.mk ?_ ?_|refine W1.mk fun hc=>?_))
 refine AW_loopP (X:=Nat) (fun z=>z ≤ l.length ∧ ∀ i,i < z → rnOk l i)
   (fun z=>mkSt [(0,rnsB l),(5,rnsB l),(6,iC .i64 (l.length:Nat)),(7,iC .i64 (z:Nat))] []) (fun z=>l.length - z) 0 ⟨Nat.zero_le _,fun i h=>absurd h (Nat.not_lt_zero _)⟩ ?_ ?_
 · exact le_auto
 · rintro z ⟨h1,h2⟩
   by_cases hz:z < l.length
   · have hir:=cnt_one l[z]
     have hno:¬ rnOk l z → b = false:=fun h=>by rw [← Bool.not_eq_true,hb];exact fun q=>h (q z hz)
     cases hr:rnR l[z] with
     | false=>
       have hb0:=hno (fun h=>by have:=(h hz).1;rw [hr] at this;cases this)
       subst hb0
       clear hb hno h2
       rw [hr] at hir
       (have kc1:=hir;refine w0 ?_;(repeat' first|refine W2.mk ?_ ?_|refine W1.mk fun hc=>?_);all_goals clear kc1)
       refine rt1 ?_
       exact rv_bool rfl rfl
     | true=>
       rw [hr] at hir
       have hrz:=(rnR_iff _).1 hr
       by_cases h0:0 < z
       · obtain ⟨q,rfl⟩:∃ q,z = q + 1:=⟨z - 1,by omega⟩
         have hqE:((q + 1:Nat):Int) - 1 = (q:Nat):=by omega
         have hrq:=(rnR_iff _).1 ((h2 q (by omega)) (by omega)).1
         by_cases hlt:l[q].to + 2 ≤ l[q + 1].fr
         · have hok:rnOk l (q + 1):=fun _=>⟨hr,fun _=>hlt⟩
           clear hb hno
           (have ke1:=Lib.hid (hqE);have kc1:=hir;refine w0e ?_;(repeat' first|refine W2.mk ?_ ?_|refine W1.mk fun hc=>?_);all_goals clear kc1 ke1)
           refine ⟨q + 1 + 1,⟨by omega,up_step h2 hok⟩,by omega,?_⟩
           exact le_auto
         · have hb0:=hno (fun h=>hlt ((h hz).2 h0))
           subst hb0
           clear hb hno h2
           (have ke1:=Lib.hid (hqE);have kc1:=hir;refine w0e ?_;(repeat' first|refine W2.mk ?_ ?_|refine W1.mk fun hc=>?_);all_goals clear kc1 ke1)
           refine rt1 ?_
           exact rv_bool rfl rfl
       · have hok:rnOk l z:=fun _=>⟨hr,fun h=>absurd h h0⟩
         clear hb hno
         (have kc1:=hir;refine w0 ?_;(repeat' first|refine W2.mk ?_ ?_|refine W1.mk fun hc=>?_);all_goals clear kc1)
         refine ⟨z + 1,⟨by omega,up_step h2 hok⟩,by omega,?_⟩
         exact le_auto
   · have hb1:b = true:=hb.2 (fun i hi=>h2 i (by omega))
     subst hb1
     clear hb h2
     (refine w0 ?_;(repeat' first|refine W2.mk ?_ ?_|refine W1.mk fun hc=>?_))
     refine rt1 ?_
     exact rv_bool rfl rfl
theorem rcnt_Right (l:List Rn) (hl:l.length ≤ 1000000000) (b:Bool) (hb:b = true ↔ rnsOk l):Fn Tryz.prog 135 [rnsB l] (boR b):=by
 refine fi Tryz.func135 Tryz.ntmps135 ?_
 (refine w0 ?_;(repeat' first|refine W2.mk ?_ ?_|refine W1.mk fun hc=>?_))
 refine AW_loopP (X:=Nat) (fun z=>z ≤ l.length ∧ ∀ i,i < z → rnOk l i)
   (fun z=>mkSt [(0,rnsB l),(3,iC .i64 (z:Nat))] []) (fun z=>l.length - z) 0 ⟨Nat.zero_le _,fun i h=>absurd h (Nat.not_lt_zero _)⟩ ?_ ?_
 · exact le_auto
 · rintro z ⟨h1,h2⟩
   by_cases hz:z < l.length
   · have hir:=rcnt_One l[z]
     have hno:¬ rnOk l z → b = false:=fun h=>by rw [← Bool.not_eq_true,hb];exact fun q=>h (q z hz)
     cases hr:rnR l[z] with
     | false=>
       have hb0:=hno (fun h=>by have:=(h hz).1;rw [hr] at this;cases this)
       subst hb0
       clear hb hno h2
       rw [hr] at hir
       (have kc1:=hir;refine w0 ?_;(repeat' first|refine W2.mk ?_ ?_|refine W1.mk fun hc=>?_);all_goals clear kc1)
       refine rt1 ?_
       exact rv_bool rfl rfl
     | true=>
       rw [hr] at hir
       have hrz:=(rnR_iff _).1 hr
       by_cases h0:0 < z
       · obtain ⟨q,rfl⟩:∃ q,z = q + 1:=⟨z - 1,by omega⟩
         have hqE:((q + 1:Nat):Int) - 1 = (q:Nat):=by omega
         have hrq:=(rnR_iff _).1 ((h2 q (by omega)) (by omega)).1
         by_cases hlt:l[q].to + 2 ≤ l[q + 1].fr
         · have hok:rnOk l (q + 1):=fun _=>⟨hr,fun _=>hlt⟩
           clear hb hno
           (have ke1:=Lib.hid (hqE);have kc1:=hir;refine w0e ?_;(repeat' first|refine W2.mk ?_ ?_|refine W1.mk fun hc=>?_);all_goals clear kc1 ke1)
           refine ⟨q + 1 + 1,⟨by omega,up_step h2 hok⟩,by omega,?_⟩
           exact le_auto
         · have hb0:=hno (fun h=>hlt ((h hz).2 h0))
           subst hb0
           clear hb hno h2
           (have ke1:=Lib.hid (hqE);have kc1:=hir;refine w0e ?_;(repeat' first|refine W2.mk ?_ ?_|refine W1.mk fun hc=>?_);all_goals clear kc1 ke1)
           refine rt1 ?_
           exact rv_bool rfl rfl
       · have hok:rnOk l z:=fun _=>⟨hr,fun h=>absurd h h0⟩
         clear hb hno
         (have kc1:=hir;refine w0 ?_;(repeat' first|refine W2.mk ?_ ?_|refine W1.mk fun hc=>?_);all_goals clear kc1)
         refine ⟨z + 1,⟨by omega,up_step h2 hok⟩,by omega,?_⟩
         exact le_auto
   · have hb1:b = true:=hb.2 (fun i hi=>h2 i (by omega))
     subst hb1
     clear hb h2
     (refine w0 ?_;(repeat' first|refine W2.mk ?_ ?_|refine W1.mk fun hc=>?_))
     refine rt1 ?_
     exact rv_bool rfl rfl
theorem vs_replica (n:Int):Fn Tryz.prog 172 [iC .i64 n] (boR (decide (1 ≤ n ∧ n ≤ 16))):=by
 refine fi Tryz.func172 Tryz.ntmps172 ?_
 (repeat' (first|refine AW_seq ?_|refine AW_block ?_|refine AW_skip ?_|refine AW_exit ?_|refine AW_ret ?_|refine AW_region ?_|refine AW_draw mixed0 ?_|refine AL_nil ?_|refine AD_nil (by kernel_rfl) ?_|refine thenA_n ?_|refine thenA_r ?_|refine thenA_e ?_|refine inB_n ?_|refine inB_r ?_|refine inB_hit ?_|refine inB_miss rfl ?_|(refine AW_cond_per rfl rfl (fun hc=>?_) (fun hc=>?_) <;> (try rw [Bool.not_eq_true'] at hc) <;> (try rw [Bool.not_eq_false'] at hc) <;> (try first|rw [decide_eq_true_eq] at hc|rw [decide_eq_false_iff_not] at hc|rw [beq_iff_eq] at hc|rw [beq_eq_false_iff_ne] at hc|rw [bne_iff_ne] at hc|rw [bne_eq_false_iff_eq] at hc) <;> (repeat rw [List.length_map] at hc) <;> (try first|contradiction|(exfalso;omega)|(exfalso;simp [*] at hc;done)))|((first|apply AL_t rfl|apply AL_0 rfl|apply AD_t rfl|apply AD_0 rfl);focus (first|exact o_auto))))
 refine rt1 ?_
 refine rv_per (per_bool ?_)
 rw [Bool.eq_iff_iff];simp
theorem vs_Right (l:List Kn) (hl:knsSz l) (b:Bool) (hb:b = true ↔ knsOk l):Fn Tryz.prog 157 [knsB l] (boR b):=by
 have hl0:=hl.1
 refine fi Tryz.func157 Tryz.ntmps157 ?_
 (refine w0 ?_;(repeat' first|refine W2.mk ?_ ?_|refine W1.mk fun hc=>?_))
 refine AW_loopP (X:=Nat × Int) (fun z=>z.1 ≤ l.length ∧ (∀ i,i < z.1 → knOk l i) ∧ (z.1 = 0 → z.2 = 0) ∧ (∀ (h:z.1 - 1 < l.length),0 < z.1 → z.2 = l[z.1 - 1].rep))
   (fun z=>mkSt [(3,iC .i64 z.2),(6,knsB l),(7,iC .i64 (l.length:Nat)),(8,iC .i64 (z.1:Nat))] []) (fun z=>l.length - z.1) (0,0) ⟨Nat.zero_le _,fun i h=>absurd h (Nat.not_lt_zero _),fun _=>rfl,fun _ h=>absurd h (by simp)⟩ ?_ ?_
 · exact le_auto
 · rintro ⟨z,was⟩ ⟨h1,h2,h3,h4⟩
   simp only at h1 h2 h3 h4 ⊢
   by_cases hz:z < l.length
   · have c1:=vs_replica l[z].rep
     have c2:=cnt_Right l[z].runs (hl.at hz) (decide (rnsOk l[z].runs)) (by simp)
     have h4':=h4 (by omega)
     have hE:l[z].runs ≠ [] ↔ ¬ l[z].runs.length = 0:=by simp
     by_cases hok:knOk l z
     · obtain ⟨a1,a2,a3,a4,a5⟩:=hok hz
       rw [decide_eq_true ⟨a1,a2⟩] at c1
       rw [decide_eq_true a4] at c2
       have a6:was < l[z].rep:=by
         rcases Nat.eq_zero_or_pos z with q|q
         · have:=h3 q;omega
         · rw [h4' q];exact a5 q
       rw [hE] at a3
       clear hb h3 h4 h4' hE a4 a5
       (have kc1:=c1;have kc2:=c2;refine w0 ?_;(repeat' first|refine W2.mk ?_ ?_|refine W1.mk fun hc=>?_);all_goals clear kc2 kc1)
       refine ⟨(z + 1,l[z].rep),⟨by simp only;omega,up_step h2 hok,fun h=>by simp at h,fun h _=>rfl⟩,by simp only;omega,?_⟩
       exact le_auto
     · have hb0:b = false:=by rw [← Bool.not_eq_true,hb];exact fun q=>hok (q z hz)
       subst hb0
       have hno:¬ (1 ≤ l[z].rep ∧ l[z].rep ≤ 16 ∧ ¬ l[z].runs.length = 0 ∧ rnsOk l[z].runs ∧ was < l[z].rep):=fun ⟨a1,a2,a3,a4,a5⟩=>hok (fun _=>⟨a1,a2,hE.2 a3,a4,fun q=>by rw [← h4' q];exact a5⟩)
       clear hb h2 h3 h4 h4' hE hok
       by_cases q1:1 ≤ l[z].rep ∧ l[z].rep ≤ 16
       · rw [decide_eq_true q1] at c1
         by_cases q2:was < l[z].rep
         · by_cases q3:l[z].runs.length = 0
           · clear hno
             (have kc1:=c1;have kc2:=c2;refine w0 ?_;(repeat' first|refine W2.mk ?_ ?_|refine W1.mk fun hc=>?_);all_goals clear kc2 kc1)
             refine rt1 ?_
             exact rv_bool rfl rfl
           · by_cases q4:rnsOk l[z].runs
             · exact absurd ⟨q1.1,q1.2,q3,q4,q2⟩ hno
             · rw [decide_eq_false q4] at c2
               clear hno q4
               (have kc1:=c1;have kc2:=c2;refine w0 ?_;(repeat' first|refine W2.mk ?_ ?_|refine W1.mk fun hc=>?_);all_goals clear kc2 kc1)
               refine rt1 ?_
               exact rv_bool rfl rfl
         · clear hno
           (have kc1:=c1;have kc2:=c2;refine w0 ?_;(repeat' first|refine W2.mk ?_ ?_|refine W1.mk fun hc=>?_);all_goals clear kc2 kc1)
           refine rt1 ?_
           exact rv_bool rfl rfl
       · rw [decide_eq_false q1] at c1
         clear hno q1
         (have kc1:=c1;have kc2:=c2;refine w0 ?_;(repeat' first|refine W2.mk ?_ ?_|refine W1.mk fun hc=>?_);all_goals clear kc2 kc1)
         refine rt1 ?_
         exact rv_bool rfl rfl
   · have hb1:b = true:=hb.2 (fun i hi=>h2 i (by omega))
     subst hb1
     clear hb h2 h3 h4
     (refine w0 ?_;(repeat' first|refine W2.mk ?_ ?_|refine W1.mk fun hc=>?_))
     refine rt1 ?_
     exact rv_bool rfl rfl
theorem rvs_Right (l:List Kn) (hl:knsSz l) (b:Bool) (hb:b = true ↔ knsOk l):Fn Tryz.prog 93 [knsB l] (boR b):=by
 have hl0:=hl.1
 refine fi Tryz.func93 Tryz.ntmps93 ?_
 (refine w0 ?_;(repeat' first|refine W2.mk ?_ ?_|refine W1.mk fun hc=>?_))
 refine AW_loopP (X:=Nat) (fun z=>z ≤ l.length ∧ ∀ i,i < z → knOk l i)
   (fun z=>mkSt [(0,knsB l),(3,iC .i64 (z:Nat))] []) (fun z=>l.length - z) 0 ⟨Nat.zero_le _,fun i h=>absurd h (Nat.not_lt_zero _)⟩ ?_ ?_
 · exact le_auto
 · rintro z ⟨h1,h2⟩
   by_cases hz:z < l.length
   · have c2:=rcnt_Right l[z].runs (hl.at hz) (decide (rnsOk l[z].runs)) (by simp)
     have hE:l[z].runs ≠ [] ↔ ¬ l[z].runs.length = 0:=by simp
     by_cases hok:knOk l z
     · obtain ⟨a1,a2,a3,a4,a5⟩:=hok hz
       rw [decide_eq_true a4] at c2
       rw [hE] at a3
       by_cases h0:0 < z
       · obtain ⟨q,rfl⟩:∃ q,z = q + 1:=⟨z - 1,by omega⟩
         have hqE:((q + 1:Nat):Int) - 1 = (q:Nat):=by omega
         have a6:l[q].rep < l[q + 1].rep:=a5 h0
         clear hb hE a4 a5
         (have ke1:=Lib.hid (hqE);have kc1:=c2;refine w0e ?_;(repeat' first|refine W2.mk ?_ ?_|refine W1.mk fun hc=>?_);all_goals clear kc1 ke1)
         refine ⟨q + 1 + 1,⟨by omega,up_step h2 hok⟩,by omega,?_⟩
         exact le_auto
       · clear hb hE a4 a5
         (have kc1:=c2;refine w0 ?_;(repeat' first|refine W2.mk ?_ ?_|refine W1.mk fun hc=>?_);all_goals clear kc1)
         refine ⟨z + 1,⟨by omega,up_step h2 hok⟩,by omega,?_⟩
         exact le_auto
     · have hb0:b = false:=by rw [← Bool.not_eq_true,hb];exact fun q=>hok (q z hz)
       subst hb0
       by_cases h0:0 < z
       · obtain ⟨q,rfl⟩:∃ q,z = q + 1:=⟨z - 1,by omega⟩
         have hqE:((q + 1:Nat):Int) - 1 = (q:Nat):=by omega
         have hno:¬ (1 ≤ l[q + 1].rep ∧ l[q + 1].rep ≤ 16 ∧ ¬ l[q + 1].runs.length = 0 ∧ rnsOk l[q + 1].runs ∧ l[q].rep < l[q + 1].rep):=fun ⟨a1,a2,a3,a4,a5⟩=>hok (fun _=>⟨a1,a2,hE.2 a3,a4,fun _=>a5⟩)
         clear hb h2 hE hok
         by_cases q4:rnsOk l[q + 1].runs
         · rw [decide_eq_true q4] at c2
           have hno':¬ (1 ≤ l[q + 1].rep ∧ l[q + 1].rep ≤ 16 ∧ ¬ l[q + 1].runs.length = 0 ∧ l[q].rep < l[q + 1].rep):=fun ⟨a1,a2,a3,a5⟩=>hno ⟨a1,a2,a3,q4,a5⟩
           clear hno q4
           (have ke1:=Lib.hid (hqE);have kc1:=c2;refine w0e ?_;(repeat' first|refine W2.mk ?_ ?_|refine W1.mk fun hc=>?_);all_goals clear kc1 ke1)
           all_goals refine rt1 ?_
           all_goals exact rv_bool rfl rfl
         · rw [decide_eq_false q4] at c2
           clear hno q4
           (have ke1:=Lib.hid (hqE);have kc1:=c2;refine w0e ?_;(repeat' first|refine W2.mk ?_ ?_|refine W1.mk fun hc=>?_);all_goals clear kc1 ke1)
           all_goals refine rt1 ?_
           all_goals exact rv_bool rfl rfl
       · have hno:¬ (1 ≤ l[z].rep ∧ l[z].rep ≤ 16 ∧ ¬ l[z].runs.length = 0 ∧ rnsOk l[z].runs):=fun ⟨a1,a2,a3,a4⟩=>hok (fun _=>⟨a1,a2,hE.2 a3,a4,fun h=>absurd h h0⟩)
         clear hb h2 hE hok
         by_cases q4:rnsOk l[z].runs
         · rw [decide_eq_true q4] at c2
           have hno':¬ (1 ≤ l[z].rep ∧ l[z].rep ≤ 16 ∧ ¬ l[z].runs.length = 0):=fun ⟨a1,a2,a3⟩=>hno ⟨a1,a2,a3,q4⟩
           clear hno q4
           (have kc1:=c2;refine w0 ?_;(repeat' first|refine W2.mk ?_ ?_|refine W1.mk fun hc=>?_);all_goals clear kc1)
           all_goals refine rt1 ?_
           all_goals exact rv_bool rfl rfl
         · rw [decide_eq_false q4] at c2
           clear hno q4
           (have kc1:=c2;refine w0 ?_;(repeat' first|refine W2.mk ?_ ?_|refine W1.mk fun hc=>?_);all_goals clear kc1)
           all_goals refine rt1 ?_
           all_goals exact rv_bool rfl rfl
   · have hb1:b = true:=hb.2 (fun i hi=>h2 i (by omega))
     subst hb1
     clear hb h2
     (refine w0 ?_;(repeat' first|refine W2.mk ?_ ?_|refine W1.mk fun hc=>?_))
     refine rt1 ?_
     exact rv_bool rfl rfl
def rnE (x y:Rn):Bool:=decide (x.fr = y.fr) && (decide (x.to = y.to) && true)
theorem rnE_iff (x y:Rn):rnE x y = true ↔ x = y:=by
 obtain ⟨a,b⟩:=x
 obtain ⟨a',b'⟩:=y
 simp [rnE]
theorem rnE_o (x y:Rn):eqO Tryz.prog 10000 200 (encRn x) (encRn y) = some (rnE x y):=by kernel_rfl
theorem rnG:Tryz.prog.eqGuardType Tryz.prog.depth 200 = false:=by kernel_rfl
theorem rcnt_Same (l m:List Rn) (hl:l.length ≤ 1000000000):Fn Tryz.prog 136 [rnsB l,rnsB m] (boR (decide (l = m))):=by
 refine fi Tryz.func136 Tryz.ntmps136 ?_
 (repeat' (first|refine AW_seq ?_|refine AW_block ?_|refine AW_skip ?_|refine AW_exit ?_|refine AW_ret ?_|refine AW_region ?_|refine AW_draw mixed0 ?_|refine AL_nil ?_|refine AD_nil (by kernel_rfl) ?_|refine thenA_n ?_|refine thenA_r ?_|refine thenA_e ?_|refine inB_n ?_|refine inB_r ?_|refine inB_hit ?_|refine inB_miss rfl ?_|(refine AW_cond_per rfl rfl (fun hc=>?_) (fun hc=>?_) <;> (try rw [Bool.not_eq_true'] at hc) <;> (try rw [Bool.not_eq_false'] at hc) <;> (try first|rw [decide_eq_true_eq] at hc|rw [decide_eq_false_iff_not] at hc|rw [beq_iff_eq] at hc|rw [beq_eq_false_iff_ne] at hc|rw [bne_iff_ne] at hc|rw [bne_eq_false_iff_eq] at hc) <;> (repeat rw [List.length_map] at hc) <;> (try first|contradiction|(exfalso;omega)|(exfalso;simp [*] at hc;done)))|((first|apply AL_t rfl|apply AL_0 rfl|apply AD_t rfl|apply AD_0 rfl);focus (first|exact o_auto))))
 · refine rt1 ?_
   exact rv_bool rfl (by symm;rw [decide_eq_false_iff_not];intro h;subst h;omega)
 have hlm:l.length = m.length:=by omega
 refine AW_loopP (fun k=>k ≤ l.length ∧ l.take k = m.take k) (fun k=>mkSt [(0,rnsB l),(1,rnsB m),(4,bC false),(5,iC .i64 (k:Nat))] []) (fun k=>l.length - k) 0 ⟨Nat.zero_le _,rfl⟩ ?_ ?_
 · exact le_auto
 · rintro k ⟨hk,hpre⟩
   by_cases hlt:k < l.length
   · have hltm:k < m.length:=by omega
     (repeat' (first|refine AW_seq ?_|refine AW_block ?_|refine AW_skip ?_|refine AW_exit ?_|refine AW_ret ?_|refine AW_region ?_|refine AW_draw mixed0 ?_|refine AL_nil ?_|refine AD_nil (by kernel_rfl) ?_|refine thenA_n ?_|refine thenA_r ?_|refine thenA_e ?_|refine inB_n ?_|refine inB_r ?_|refine inB_hit ?_|refine inB_miss rfl ?_|(refine AW_cond_per rfl rfl (fun hc=>?_) (fun hc=>?_) <;> (try rw [Bool.not_eq_true'] at hc) <;> (try rw [Bool.not_eq_false'] at hc) <;> (try first|rw [decide_eq_true_eq] at hc|rw [decide_eq_false_iff_not] at hc|rw [beq_iff_eq] at hc|rw [beq_eq_false_iff_ne] at hc|rw [bne_iff_ne] at hc|rw [bne_eq_false_iff_eq] at hc) <;> (repeat rw [List.length_map] at hc) <;> (try first|contradiction|(exfalso;omega)|(exfalso;simp [*] at hc;done)))|((first|apply AL_t rfl|apply AL_0 rfl|apply AD_t rfl|apply AD_0 rfl);focus (first|exact o_auto|(exact op_eqA (us:=encRn l[k]) (vs:=encRn m[k]) ⟨rfl,rfl,rfl⟩ rfl rfl rfl (.inr ⟨rfl,rfl⟩) rnG rfl (rnE_o l[k] m[k]))))))
     · refine rt1 ?_
       exact rv_bool rfl (by symm;rw [decide_eq_false_iff_not];intro h;subst h;simp [(rnE_iff l[k] l[k]).2 rfl] at *)
     · refine ⟨k + 1,⟨by omega,?_⟩,by omega,?_⟩
       · rw [take_snoc' l k hlt,take_snoc' m k hltm,hpre,(rnE_iff l[k] m[k]).1 (by simpa using hc)]
       · exact le_auto
   · (repeat' (first|refine AW_seq ?_|refine AW_block ?_|refine AW_skip ?_|refine AW_exit ?_|refine AW_ret ?_|refine AW_region ?_|refine AW_draw mixed0 ?_|refine AL_nil ?_|refine AD_nil (by kernel_rfl) ?_|refine thenA_n ?_|refine thenA_r ?_|refine thenA_e ?_|refine inB_n ?_|refine inB_r ?_|refine inB_hit ?_|refine inB_miss rfl ?_|(refine AW_cond_per rfl rfl (fun hc=>?_) (fun hc=>?_) <;> (try rw [Bool.not_eq_true'] at hc) <;> (try rw [Bool.not_eq_false'] at hc) <;> (try first|rw [decide_eq_true_eq] at hc|rw [decide_eq_false_iff_not] at hc|rw [beq_iff_eq] at hc|rw [beq_eq_false_iff_ne] at hc|rw [bne_iff_ne] at hc|rw [bne_eq_false_iff_eq] at hc) <;> (repeat rw [List.length_map] at hc) <;> (try first|contradiction|(exfalso;omega)|(exfalso;simp [*] at hc;done)))|((first|apply AL_t rfl|apply AL_0 rfl|apply AD_t rfl|apply AD_0 rfl);focus (first|exact o_auto))))
     refine rt1 ?_
     exact rv_bool rfl (by symm;rw [decide_eq_true_eq,← List.take_of_length_le (show l.length ≤ k by omega),hpre,List.take_of_length_le (by omega)])
theorem rvs_Same (l m:List Kn) (hl:knsSz l):Fn Tryz.prog 94 [knsB l,knsB m] (boR (decide (l = m))):=by
 have hl0:=hl.1
 refine fi Tryz.func94 Tryz.ntmps94 ?_
 (refine w0 ?_;(repeat' first|refine W2.mk ?_ ?_|refine W1.mk fun hc=>?_))
 · refine rt1 ?_
   exact rv_bool rfl (by symm;rw [decide_eq_false_iff_not];intro h;subst h;omega)
 have hlm:l.length = m.length:=by omega
 refine AW_loopP (fun k=>k ≤ l.length ∧ l.take k = m.take k) (fun k=>mkSt [(0,knsB l),(1,knsB m),(4,bC false),(5,iC .i64 (k:Nat))] []) (fun k=>l.length - k) 0 ⟨Nat.zero_le _,rfl⟩ ?_ ?_
 · exact le_auto
 · rintro k ⟨hk,hpre⟩
   by_cases hlt:k < l.length
   · have hltm:k < m.length:=by omega
     have c1:=rcnt_Same l[k].runs m[k].runs (hl.at hlt)
     have hE:l[k] = m[k] ↔ l[k].rep = m[k].rep ∧ l[k].runs = m[k].runs:=by
       constructor
       · intro h;rw [h];exact ⟨rfl,rfl⟩
       · rintro ⟨h1,h2⟩
         cases hx:l[k];cases hy:m[k]
         rw [hx,hy] at h1 h2
         simp only at h1 h2
         rw [h1,h2]
     by_cases h1:l[k].rep = m[k].rep
     · by_cases h2:l[k].runs = m[k].runs
       · rw [decide_eq_true h2] at c1
         clear hE
         have hlm1:l[k] = m[k]:=by
           cases hx:l[k];cases hy:m[k]
           rw [hx,hy] at h1 h2
           simp only at h1 h2
           rw [h1,h2]
         clear h2
         (have kc1:=c1;refine w0 ?_;(repeat' first|refine W2.mk ?_ ?_|refine W1.mk fun hc=>?_);all_goals clear kc1)
         refine ⟨k + 1,⟨by omega,?_⟩,by omega,?_⟩
         · rw [take_snoc' l k hlt,take_snoc' m k hltm,hpre,hlm1]
         · exact le_auto
       · rw [decide_eq_false h2] at c1
         have hd:¬ l = m:=fun h=>h2 (by subst h;rfl)
         rw [decide_eq_false hd]
         clear hE h2 hd
         (have kc1:=c1;refine w0 ?_;(repeat' first|refine W2.mk ?_ ?_|refine W1.mk fun hc=>?_);all_goals clear kc1)
         refine rt1 ?_
         exact rv_bool rfl rfl
     · have hd:¬ l = m:=fun h=>h1 (by subst h;rfl)
       rw [decide_eq_false hd]
       clear hE hd
       (have kc1:=c1;refine w0 ?_;(repeat' first|refine W2.mk ?_ ?_|refine W1.mk fun hc=>?_);all_goals clear kc1)
       refine rt1 ?_
       exact rv_bool rfl rfl
   · rw [List.take_of_length_le (by omega),List.take_of_length_le (by omega)] at hpre
     rw [decide_eq_true hpre]
     clear hpre
     (refine w0 ?_;(repeat' first|refine W2.mk ?_ ?_|refine W1.mk fun hc=>?_))
     refine rt1 ?_
     exact rv_bool rfl rfl
def longKns (l:List Kn) (most:Int):Bool:=decide ((l.length:Int) > most) || l.any fun k=>decide ((k.runs.length:Int) > most)
theorem rvs_Long (l:List Kn) (most:Int) (hl:most ≤ 1000000000000):Fn Tryz.prog 41 [knsB l,iC .i64 most] (boR (longKns l most)):=by
 refine fi Tryz.func41 Tryz.ntmps41 ?_
 (refine w0 ?_;(repeat' first|refine W2.mk ?_ ?_|refine W1.mk fun hc=>?_))
 · refine rt1 ?_
   exact rv_bool rfl (by unfold longKns;rw [decide_eq_true hc];rfl)
 refine AW_loopP (fun k=>k ≤ l.length ∧ (l.take k).any (fun k=>decide ((k.runs.length:Int) > most)) = false) (fun k=>mkSt [(0,knsB l),(1,iC .i64 most),(4,bC false),(5,iC .i64 (k:Nat))] []) (fun k=>l.length - k) 0 ⟨Nat.zero_le _,by simp⟩ ?_ ?_
 · exact le_auto
 · rintro k ⟨hk,hpre⟩
   by_cases hlt:k < l.length
   · have hsn:(l.take (k + 1)).any (fun k=>decide ((k.runs.length:Int) > most)) = ((l.take k).any (fun k=>decide ((k.runs.length:Int) > most)) || decide ((l[k].runs.length:Int) > most)):=by rw [take_snoc' l k hlt,List.any_append];simp
     by_cases hq:(l[k].runs.length:Int) > most
     · have hd:longKns l most = true:=by unfold longKns;rw [Bool.or_eq_true,List.any_eq_true];exact .inr ⟨l[k],List.getElem_mem hlt,decide_eq_true hq⟩
       rw [hd]
       clear hd hsn hpre
       (refine w0 ?_;(repeat' first|refine W2.mk ?_ ?_|refine W1.mk fun hc=>?_))
       refine rt1 ?_
       exact rv_bool rfl rfl
     · rw [hpre,decide_eq_false hq] at hsn
       clear hpre
       (refine w0 ?_;(repeat' first|refine W2.mk ?_ ?_|refine W1.mk fun hc=>?_))
       refine ⟨k + 1,⟨by omega,hsn⟩,by omega,?_⟩
       exact le_auto
   · have e:l.take k = l:=List.take_of_length_le (by omega)
     rw [e] at hpre
     have hd:longKns l most = false:=by unfold longKns;rw [hpre,Bool.or_false,decide_eq_false_iff_not];assumption
     rw [hd]
     clear hd hpre e
     (refine w0 ?_;(repeat' first|refine W2.mk ?_ ?_|refine W1.mk fun hc=>?_))
     refine rt1 ?_
     exact rv_bool rfl rfl
theorem longKns_sz {l:List Kn} {most:Int} (h:longKns l most = false):(l.length:Int) ≤ most ∧ ∀ k ∈ l,(k.runs.length:Int) ≤ most:=by
 unfold longKns at h
 rw [Bool.or_eq_false_iff,decide_eq_false_iff_not] at h
 refine ⟨by omega,fun k hk=>?_⟩
 have:=List.any_eq_false.1 h.2 k hk
 simp at this;exact this
end
end Go.Proofs.YthlffkjpklpkfaaGreat
