/- Texts joined: LawCh Find StP Kw AbsZ Kw2. -/
import Derived.Test.YtfcpkegmdlchhaaGreatJ15
import Derived.Test.YtfcpkegmdlchhaaGreatJ06
set_option maxRecDepth 10000
set_option maxHeartbeats 8000000
namespace Go.Proofs.YtfcpkegmdlchhaaGreat
open Go.RowKit
section
end
/-- right, and behind the one ahead of it -/
def okAt (l:List It) (i:Nat):Prop:=∀ h:i < l.length,itR l[i] = true ∧ ∀ h0:0 < i,cmpB l[i - 1].key l[i].key < 0
def listOk (l:List It):Prop:=∀ i,okAt l i
theorem listOk_up {l:List It} (h:listOk l):Up l:=by
 unfold Up
 rw [List.pairwise_iff_getElem]
 intro i j hi hj hij
 induction j with
 | zero=>omega
 | succ j ih=>
   have h1:=(h (j + 1) hj).2 (by omega)
   simp only [Nat.add_sub_cancel] at h1
   rcases Nat.lt_or_ge i j with q|q
   · exact ltK_wo.tr _ _ _ (ih (by omega) q) (by rw [ltK_t];exact h1)
   · obtain rfl:i = j:=by omega
     rw [ltK_t];exact h1
theorem listOk_right {l:List It} (h:listOk l):∀ x ∈ l,itR x = true:=fun x hx=>by
 obtain ⟨i,hi,rfl⟩:=List.getElem_of_mem hx
 exact (h i hi).1
section
variable {P:Program} {n t:Nat} {ops:Array Oper} {o:Oper} {S:St}
end
section
theorem item_List (l:List It) (hk:kOk l) (hl:l.length ≤ 1000000000) (b:Bool) (hb:b = true ↔ listOk l):Fn Tryz.prog 73 [itsB l] (boR b):=by
 refine fi Tryz.func73 Tryz.ntmps73 ?_
 (refine w0 ?_;(repeat' first|refine W2.mk ?_ ?_|refine W1.mk fun hc=>?_))
 refine AW_loopP (X:=Nat) (fun z=>z ≤ l.length ∧ ∀ i,i < z → okAt l i)
   (fun z=>mkSt [(0,itsB l),(5,itsB l),(6,iC .i64 (l.length:Nat)),(7,iC .i64 (z:Nat))] []) (fun z=>l.length - z) 0 ⟨Nat.zero_le _,fun i h=>absurd h (Nat.not_lt_zero _)⟩ ?_ ?_
 · exact le_auto
 · rintro z ⟨h1,h2⟩
   by_cases hz:z < l.length
   · have hir:=item_Right l[z]
     have hno:¬ okAt l z → b = false:=fun h=>by rw [← Bool.not_eq_true,hb];exact fun q=>h (q z)
     cases hr:itR l[z] with
     | false=>
       have hb0:=hno (fun h=>by have:=(h hz).1;rw [hr] at this;cases this)
       subst hb0
       clear hb hno h2
       rw [hr] at hir
       (have kc1:=hir;refine w0 ?_;(repeat' first|refine W2.mk ?_ ?_|refine W1.mk fun hc=>?_);all_goals clear kc1)
       refine rt1 ?_
       exact rv_bool rfl rfl
     | true=>
       rw [hr] at hir
       by_cases h0:0 < z
       · obtain ⟨q,rfl⟩:∃ q,z = q + 1:=⟨z - 1,by omega⟩
         have hqE:((q + 1:Nat):Int) - 1 = (q:Nat):=by omega
         have hcm:=key_Cmp l[q].key l[q + 1].key (by have:=hk l[q] (List.getElem_mem _);omega)
         by_cases hlt:cmpB l[q].key l[q + 1].key < 0
         · have hok:okAt l (q + 1):=fun _=>⟨hr,fun _=>hlt⟩
           clear hb hno
           (have ke1:=Lib.hid (hqE);have kc1:=hir;have kc2:=hcm;refine w0e ?_;(repeat' first|refine W2.mk ?_ ?_|refine W1.mk fun hc=>?_);all_goals clear kc2 kc1 ke1)
           refine ⟨q + 1 + 1,⟨by omega,fun i hi=>?_⟩,by omega,?_⟩
           · rcases Nat.lt_or_ge i (q + 1) with q'|q'
             · exact h2 i q'
             · obtain rfl:i = q + 1:=by omega
               exact hok
           · exact le_auto
         · have hb0:=hno (fun h=>hlt ((h hz).2 h0))
           subst hb0
           clear hb hno h2
           (have ke1:=Lib.hid (hqE);have kc1:=hir;have kc2:=hcm;refine w0e ?_;(repeat' first|refine W2.mk ?_ ?_|refine W1.mk fun hc=>?_);all_goals clear kc2 kc1 ke1)
           refine rt1 ?_
           exact rv_bool rfl rfl
       · have hok:okAt l z:=fun _=>⟨hr,fun h=>absurd h h0⟩
         clear hb hno
         (have kc1:=hir;refine w0 ?_;(repeat' first|refine W2.mk ?_ ?_|refine W1.mk fun hc=>?_);all_goals clear kc1)
         refine ⟨z + 1,⟨by omega,fun i hi=>?_⟩,by omega,?_⟩
         · rcases Nat.lt_or_ge i z with q|q
           · exact h2 i q
           · obtain rfl:i = z:=by omega
             exact hok
         · exact le_auto
   · have hb1:b = true:=hb.2 (fun i=>by
       rcases Nat.lt_or_ge i z with q|q
       · exact h2 i q
       · exact fun h=>by omega)
     subst hb1
     clear hb h2
     (refine w0 ?_;(repeat' first|refine W2.mk ?_ ?_|refine W1.mk fun hc=>?_))
     refine rt1 ?_
     exact rv_bool rfl rfl
theorem ref_List (l:List It) (hk:kOk l) (hl:l.length ≤ 1000000000) (b:Bool) (hb:b = true ↔ listOk l):Fn Tryz.prog 33 [itsB l] (boR b):=by
 refine fi Tryz.func33 Tryz.ntmps33 ?_
 (refine w0 ?_;(repeat' first|refine W2.mk ?_ ?_|refine W1.mk fun hc=>?_))
 refine AW_loopP (X:=Nat) (fun z=>z ≤ l.length ∧ ∀ i,i < z → okAt l i)
   (fun z=>mkSt [(0,itsB l),(3,iC .i64 (z:Nat))] []) (fun z=>l.length - z) 0 ⟨Nat.zero_le _,fun i h=>absurd h (Nat.not_lt_zero _)⟩ ?_ ?_
 · exact le_auto
 · rintro z ⟨h1,h2⟩
   by_cases hz:z < l.length
   · have hir:=ritem_Right l[z]
     have hno:¬ okAt l z → b = false:=fun h=>by rw [← Bool.not_eq_true,hb];exact fun q=>h (q z)
     cases hr:itR l[z] with
     | false=>
       have hb0:=hno (fun h=>by have:=(h hz).1;rw [hr] at this;cases this)
       subst hb0
       clear hb hno h2
       rw [hr] at hir
       (have kc1:=hir;refine w0 ?_;(repeat' first|refine W2.mk ?_ ?_|refine W1.mk fun hc=>?_);all_goals clear kc1)
       refine rt1 ?_
       exact rv_bool rfl rfl
     | true=>
       rw [hr] at hir
       by_cases h0:0 < z
       · obtain ⟨q,rfl⟩:∃ q,z = q + 1:=⟨z - 1,by omega⟩
         have hqE:((q + 1:Nat):Int) - 1 = (q:Nat):=by omega
         have hcm:=ref_Less l[q].key l[q + 1].key (by have:=hk l[q] (List.getElem_mem _);omega)
         by_cases hlt:cmpB l[q].key l[q + 1].key < 0
         · have hok:okAt l (q + 1):=fun _=>⟨hr,fun _=>hlt⟩
           rw [decide_eq_true hlt] at hcm
           clear hb hno
           (have ke1:=Lib.hid (hqE);have kc1:=hir;have kc2:=hcm;refine w0e ?_;(repeat' first|refine W2.mk ?_ ?_|refine W1.mk fun hc=>?_);all_goals clear kc2 kc1 ke1)
           refine ⟨q + 1 + 1,⟨by omega,fun i hi=>?_⟩,by omega,?_⟩
           · rcases Nat.lt_or_ge i (q + 1) with q'|q'
             · exact h2 i q'
             · obtain rfl:i = q + 1:=by omega
               exact hok
           · exact le_auto
         · have hb0:=hno (fun h=>hlt ((h hz).2 h0))
           rw [decide_eq_false hlt] at hcm
           subst hb0
           clear hb hno h2
           (have ke1:=Lib.hid (hqE);have kc1:=hir;have kc2:=hcm;refine w0e ?_;(repeat' first|refine W2.mk ?_ ?_|refine W1.mk fun hc=>?_);all_goals clear kc2 kc1 ke1)
           refine rt1 ?_
           exact rv_bool rfl rfl
       · have hok:okAt l z:=fun _=>⟨hr,fun h=>absurd h h0⟩
         clear hb hno
         (have kc1:=hir;refine w0 ?_;(repeat' first|refine W2.mk ?_ ?_|refine W1.mk fun hc=>?_);all_goals clear kc1)
         refine ⟨z + 1,⟨by omega,fun i hi=>?_⟩,by omega,?_⟩
         · rcases Nat.lt_or_ge i z with q|q
           · exact h2 i q
           · obtain rfl:i = z:=by omega
             exact hok
         · exact le_auto
   · have hb1:b = true:=hb.2 (fun i=>by
       rcases Nat.lt_or_ge i z with q|q
       · exact h2 i q
       · exact fun h=>by omega)
     subst hb1
     clear hb h2
     (refine w0 ?_;(repeat' first|refine W2.mk ?_ ?_|refine W1.mk fun hc=>?_))
     refine rt1 ?_
     exact rv_bool rfl rfl
end
structure Sta where
 id:Int:=0
 flt:List Rg:=[]
 its:List It:=[]
 know:List Pc:=[]
 cnt:Int:=0
/-- what knowledge has of the texts of a list -/
def resF (k:List Pc) (f:List Rg) (s:ByteArray):List Kn:=if anyR f s then atK k s else []
def resE (k:List Pc) (f:List Rg):List ByteArray:=edgT [emB] (rgsOf k ++ f)
def restK (k:List Pc) (f:List Rg):List Pc:=bldK (resF k f) (resE k f)
theorem resF_ok (k:List Pc) (f:List Rg) (s:ByteArray):knsOk (resF k f s):=by
 unfold resF
 split
 · exact atK_ok k s
 · exact knsOk_nil
theorem resE_edge {k:List Pc} {f:List Rg} {r:Rg} (hr:r ∈ rgsOf k ++ f) {m:ByteArray} (h:isEdge r m):m ∈ resE k f:=(edgT_mem _ _ _).2 (.inr ⟨r,hr,h⟩)
theorem resE_up (k:List Pc) (f:List Rg):upT (resE k f):=edgT_up _ _ (by simp)
theorem resE_em (k:List Pc) (f:List Rg):emB ∈ resE k f:=(edgT_mem _ _ _).2 (.inl (by simp))
theorem resE_ok (k:List Pc) (f:List Rg):edgOk (resE k f):=fun m hm=>by
 rcases (edgT_mem _ _ _).1 hm with h|⟨r,_,h1,h2⟩
 · have h:m = emB:=by simpa using h
   rw [h];decide
 · have:=(rgR_iff r).1 h1
   rcases h2 with h2|⟨_,h2⟩ <;> rw [h2] <;> omega
theorem resF_cst (k:List Pc) (f:List Rg):CstT (resF k f) (resE k f):=fun e n hen h=>by
 have h1:atK k e = atK k n:=atK_mid hen fun p hp m hm=>h m (resE_edge (List.mem_append_left _ (List.mem_map_of_mem hp)) hm)
 have h2:anyR f e = anyR f n:=by
   unfold anyR
   rw [Bool.eq_iff_iff,List.any_eq_true,List.any_eq_true]
   constructor
   · rintro ⟨r,hr,q⟩
     exact ⟨r,hr,by rw [← rgHas_mid hen fun m hm=>h m (resE_edge (List.mem_append_right _ hr) hm)];exact q⟩
   · rintro ⟨r,hr,q⟩
     exact ⟨r,hr,by rw [rgHas_mid hen fun m hm=>h m (resE_edge (List.mem_append_right _ hr) hm)];exact q⟩
 unfold resF
 rw [h1,h2]
theorem restK_ok (k:List Pc) (f:List Rg):pcsOk (restK k f) ∧ ∀ s,getK (restK k f) s = resF k f s:=bldK_ok (resF_ok k f) (resE_up k f) (resE_ok k f) (resE_em k f) (resF_cst k f)
/-- the greatest count of runs -/
def lastTo (l:List Rn):Int:=match l.getLast? with|some r=>r.to|none=>0
def mostR (l:List Rn):Int:=lastTo (ofR l)
/-- a replica's greatest count in a set, in knowledge -/
def mostS (s:List Kn) (id:Int):Int:=if 1 ≤ id ∧ id ≤ 16 then mostR (tabAt s (id - 1).toNat) else 0
def mostK (k:List Pc) (id:Int):Int:=k.foldl (fun n p=>max n (mostS p.set id)) 0
theorem lastTo_snoc (l:List Rn) (r:Rn):lastTo (l ++ [r]) = r.to:=by unfold lastTo;simp
/-- the greatest of a set's entries of a replica -/
def fold1 (id:Int) (n:Int) (k:Kn):Int:=if k.rep = id then max n (lastTo k.runs) else n
theorem fold_set (id:Int):∀ (T:List (List Rn)) (i:Nat) (n:Int),0 ≤ n → (setFrom ofR i T).foldl (fold1 id) n = if h:(i:Int) < id ∧ id ≤ i + T.length then max n (mostR (T[(id - 1 - i).toNat]'(by omega))) else n:=by
 intro T
 induction T with
 | nil=>intro i n hn;rw [dif_neg (fun q=>by have:=q.2;simp only [List.length_nil] at this;omega)];rfl
 | cons l T ih=>
   intro i n hn
   rw [setFrom,List.foldl_append]
   by_cases e:id = (i:Int) + 1
   · have h1:(if (ofR l).length = 0 then [] else [(⟨(i:Int) + 1,ofR l⟩:Kn)]).foldl (fold1 id) n = max n (mostR l):=by
       split
       · rename_i h0
         have:ofR l = []:=List.eq_nil_of_length_eq_zero h0
         have hm:mostR l = 0:=by unfold mostR;rw [this];rfl
         rw [hm];exact (Int.max_eq_left hn).symm
       · simp only [List.foldl_cons,List.foldl_nil,fold1]
         rw [if_pos e.symm];rfl
     rw [h1,ih (i + 1) _ (by omega),dif_neg (by simp;omega),dif_pos (by simp;omega)]
     have:(id - 1 - (i:Int)).toNat = 0:=by omega
     simp only [this,List.getElem_cons_zero]
   · have h1:(if (ofR l).length = 0 then [] else [(⟨(i:Int) + 1,ofR l⟩:Kn)]).foldl (fold1 id) n = n:=by
       split
       · rfl
       · simp only [List.foldl_cons,List.foldl_nil,fold1]
         rw [if_neg (fun q=>e q.symm)]
     rw [h1,ih (i + 1) n hn]
     by_cases c:(i:Int) < id ∧ id ≤ (i:Int) + ((l :: T).length:Nat)
     · simp only [List.length_cons] at c
       rw [dif_pos (by omega),dif_pos (by simp only [List.length_cons];omega)]
       obtain ⟨m,hm⟩:∃ m,(id - 1 - (i:Int)).toNat = m + 1:=⟨(id - 1 - (i:Int)).toNat - 1,by omega⟩
       have hm2:(id - 1 - ((i + 1:Nat):Int)).toNat = m:=by omega
       simp only [hm,hm2,List.getElem_cons_succ]
     · rw [dif_neg (by simp only [List.length_cons] at c;omega),dif_neg c]
theorem fold_vsOf (s:List Kn) (id n:Int) (hn:0 ≤ n):(vsOf ofR s).foldl (fold1 id) n = max n (mostS s id):=by
 unfold vsOf
 rw [fold_set id _ 0 n hn]
 unfold mostS
 by_cases c:1 ≤ id ∧ id ≤ 16
 · rw [dif_pos (by rw [tabOf_len];omega),if_pos c]
   have h:=tabOf_get s (r:=(id - 1).toNat) (by omega)
   have e:(id - 1 - ((0:Nat):Int)).toNat = (id - 1).toNat:=by omega
   simp only [e]
   rw [List.getElem?_eq_getElem (by rw [tabOf_len];omega)] at h
   rw [Option.some.inj h]
 · rw [dif_neg (by rw [tabOf_len];omega),if_neg c];omega
def verOf (x:It):Int × Int:=(x.rep,x.cnt)
def apartB (l:List It):Bool:=decide ((l.map verOf).Nodup)
/-- has a set a version? -/
def hasKb (s:List Kn) (r c:Int):Bool:=verR r c && hasRb (tabAt s (r - 1).toNat) c
/-- is a version of a text known? -/
def hasPb (k:List Pc) (s:ByteArray) (r c:Int):Bool:=k.any fun p=>rgHas p.rg s && hasKb p.set r c
def listB (l:List It):Bool:=l.all itR && decide ((l.map It.key).Pairwise (· < ·))
def stR (s:Sta):Bool:=
 decide (1 ≤ s.id ∧ s.id ≤ 16) && decide (0 ≤ s.cnt ∧ s.cnt ≤ 1099511627776) && decide (s.its.length ≤ 4096) && decide (rgsOk s.flt) && listB s.its && decide (pcsOk s.know) &&
 decide (restK s.know s.flt = s.know) && decide (mostK s.know s.id ≤ s.cnt) && apartB s.its && s.its.all (fun x=>anyR s.flt x.key && hasPb s.know x.key x.rep x.cnt)
theorem cmpL_swap:∀ a b:List UInt8,cmpL b a = - cmpL a b:=by
 intro a
 induction a with
 | nil=>intro b;cases b <;> rfl
 | cons x a ih=>
   intro b
   cases b with
   | nil=>rfl
   | cons y b=>
     simp only [cmpL]
     by_cases h1:x.toNat < y.toNat
     · rw [if_neg (show ¬ y.toNat < x.toNat by omega),if_pos h1,if_pos h1];rfl
     · by_cases h2:y.toNat < x.toNat
       · rw [if_pos h2,if_neg h1,if_pos h2]
       · rw [if_neg h2,if_neg h1,if_neg h1,if_neg h2,ih]
theorem cmpB_swap (s t:ByteArray):cmpB t s = - cmpB s t:=cmpL_swap _ _
/-- not too long -/
def pcsSz (k:List Pc):Prop:=k.length ≤ 1000000000 ∧ ∀ p ∈ k,knsTot p.set
theorem pcsSz.at {k:List Pc} (h:pcsSz k) {i:Nat} (hi:i < k.length):knsTot k[i].set:=h.2 _ (List.getElem_mem hi)
def touchB (a b:Rg):Bool:=!a.op && decide (a.hi = b.lo)
section
theorem know_touch (a b:Rg):Fn Tryz.prog 115 [rgC a,rgC b] (boR (touchB a b)):=by
 obtain ⟨lo,hi,op⟩:=a
 obtain ⟨lo',hi',op'⟩:=b
 show Fn Tryz.prog _ [.per (aggP [rawP (.string lo),rawP (.string hi),rawP (.bool op)]),.per (aggP [rawP (.string lo'),rawP (.string hi'),rawP (.bool op')])] _
 cases op with
 | true=>
   refine fi Tryz.func115 Tryz.ntmps115 ?_
   (refine w0 ?_;(repeat' first|refine W2.mk ?_ ?_|refine W1.mk fun hc=>?_))
   refine rt1 ?_
   exact rv_bool rfl rfl
 | false=>
   refine fi Tryz.func115 Tryz.ntmps115 ?_
   (refine w0 ?_;(repeat' first|refine W2.mk ?_ ?_|refine W1.mk fun hc=>?_))
   refine rt1 ?_
   exact rv_bool rfl (by unfold touchB;rw [Bool.eq_iff_iff];simp [toL_inj'])
theorem know_Right (k:List Pc) (hk:pcsSz k) (b:Bool) (hb:b = true ↔ pcsOk k):Fn Tryz.prog 74 [pcsB k] (boR b):=by
 have hl0:=hk.1
 refine fi Tryz.func74 Tryz.ntmps74 ?_
 (refine w0 ?_;(repeat' first|refine W2.mk ?_ ?_|refine W1.mk fun hc=>?_))
 refine AW_loopP (X:=Nat) (fun z=>z ≤ k.length ∧ ∀ i,i < z → pcOk k i)
   (fun z=>mkSt [(0,pcsB k),(6,pcsB k),(7,iC .i64 (k.length:Nat)),(8,iC .i64 (z:Nat))] []) (fun z=>k.length - z) 0 ⟨Nat.zero_le _,fun i h=>absurd h (Nat.not_lt_zero _)⟩ ?_ ?_
 · exact le_auto
 · rintro z ⟨h1,h2⟩
   by_cases hz:z < k.length
   · have c1:=span_Right k[z].rg
     have c2:=vs_Right k[z].set (hk.at hz).sz (decide (knsOk k[z].set)) (by simp)
     have hE:k[z].set ≠ [] ↔ ¬ k[z].set.length = 0:=by simp
     have hno:¬ pcOk k z → b = false:=fun h=>by rw [← Bool.not_eq_true,hb];exact fun q=>h (q z hz)
     by_cases q1:rgR k[z].rg = true
     · rw [q1] at c1
       by_cases q2:k[z].set.length = 0
       · have hb0:=hno (fun h=>absurd q2 (hE.1 (h hz).2.1))
         subst hb0
         clear hb hno h2 hE q1
         (have kc1:=c1;have kc2:=c2;refine w0 ?_;(repeat' first|refine W2.mk ?_ ?_|refine W1.mk fun hc=>?_);all_goals clear kc2 kc1)
         refine rt1 ?_
         exact rv_bool rfl rfl
       · by_cases q3:knsOk k[z].set
         · rw [decide_eq_true q3] at c2
           by_cases h0:0 < z
           · obtain ⟨q,rfl⟩:∃ q,z = q + 1:=⟨z - 1,by omega⟩
             have hqE:((q + 1:Nat):Int) - 1 = (q:Nat):=by omega
             have hq:=(h2 q (by omega)) (by omega)
             have hrq:=(rgR_iff _).1 hq.1
             have c3:=key_Cmp k[q].rg.hi k[q + 1].rg.lo (by omega)
             have c4:=know_touch k[q].rg k[q + 1].rg
             have c5:=vs_Same_ok k[q].set k[q + 1].set (hk.at (by omega)) (hk.at hz) hq.2.2.1 q3
             have hiff:pcOk k (q + 1) ↔ k[q].rg.op = false ∧ cmpB k[q].rg.hi k[q + 1].rg.lo ≤ 0 ∧ ¬ (k[q].rg.hi = k[q + 1].rg.lo ∧ k[q].set = k[q + 1].set):=
               ⟨fun h=>(h hz).2.2.2 (by omega),fun h _=>⟨q1,hE.2 q2,q3,fun _=>h⟩⟩
             clear hq hrq
             have hE2:((k[q + 1].set.length:Nat):Int) ≠ 0:=by omega
             cases o:k[q].rg.op with
             | true=>
               have hb0:=hno (fun h=>by have:=(hiff.1 h).1;rw [o] at this;cases this)
               subst hb0
               clear hb hno h2 hE q1 q3 hiff
               (have ke1:=Lib.hid (hqE);have kc1:=c1;have kc2:=c2;have kc3:=c3;have kc4:=c4;have kc5:=c5;refine w0e ?_;(repeat' first|refine W2.mk ?_ ?_|refine W1.mk fun hc=>?_);all_goals clear kc5 kc4 kc3 kc2 kc1 ke1)
               all_goals first|(exfalso;simp_all;done)|skip
               refine rt1 ?_
               exact rv_bool rfl rfl
             | false=>
               by_cases g:cmpB k[q].rg.hi k[q + 1].rg.lo ≤ 0
               · by_cases e:k[q].rg.hi = k[q + 1].rg.lo
                 · have ht:touchB k[q].rg k[q + 1].rg = true:=by simp [touchB,o,e]
                   rw [ht] at c4
                   by_cases s:k[q].set = k[q + 1].set
                   · rw [decide_eq_true s] at c5
                     have hb0:=hno (fun h=>(hiff.1 h).2.2 ⟨e,s⟩)
                     subst hb0
                     clear hb hno h2 hE q1 q3 hiff s ht e
                     (have ke1:=Lib.hid (hqE);have kc1:=c1;have kc2:=c2;have kc3:=c3;have kc4:=c4;have kc5:=c5;refine w0e ?_;(repeat' first|refine W2.mk ?_ ?_|refine W1.mk fun hc=>?_);all_goals clear kc5 kc4 kc3 kc2 kc1 ke1)
                     all_goals first|(exfalso;simp_all;done)|skip
                     refine rt1 ?_
                     exact rv_bool rfl rfl
                   · rw [decide_eq_false s] at c5
                     have hok:=hiff.2 ⟨o,g,fun h=>s h.2⟩
                     clear hb hno hE q1 q3 hiff s ht e
                     (have ke1:=Lib.hid (hqE);have kc1:=c1;have kc2:=c2;have kc3:=c3;have kc4:=c4;have kc5:=c5;refine w0e ?_;(repeat' first|refine W2.mk ?_ ?_|refine W1.mk fun hc=>?_);all_goals clear kc5 kc4 kc3 kc2 kc1 ke1)
                     all_goals first|(exfalso;simp_all;done)|skip
                     refine ⟨q + 1 + 1,⟨by omega,up_step h2 hok⟩,by omega,?_⟩
                     exact le_auto
                 · have ht:touchB k[q].rg k[q + 1].rg = false:=by simp [touchB,o,e]
                   rw [ht] at c4
                   have hok:=hiff.2 ⟨o,g,fun h=>e h.1⟩
                   clear hb hno hE q1 q3 hiff ht e c5
                   (have ke1:=Lib.hid (hqE);have kc1:=c1;have kc2:=c2;have kc3:=c3;have kc4:=c4;refine w0e ?_;(repeat' first|refine W2.mk ?_ ?_|refine W1.mk fun hc=>?_);all_goals clear kc4 kc3 kc2 kc1 ke1)
                   all_goals first|(exfalso;simp_all;done)|skip
                   refine ⟨q + 1 + 1,⟨by omega,up_step h2 hok⟩,by omega,?_⟩
                   exact le_auto
               · have hb0:=hno (fun h=>g (hiff.1 h).2.1)
                 subst hb0
                 clear hb hno h2 hE q1 q3 hiff
                 (have ke1:=Lib.hid (hqE);have kc1:=c1;have kc2:=c2;have kc3:=c3;have kc4:=c4;have kc5:=c5;refine w0e ?_;(repeat' first|refine W2.mk ?_ ?_|refine W1.mk fun hc=>?_);all_goals clear kc5 kc4 kc3 kc2 kc1 ke1)
                 all_goals first|(exfalso;simp_all;done)|skip
                 refine rt1 ?_
                 exact rv_bool rfl rfl
           · have hok:pcOk k z:=fun _=>⟨q1,hE.2 q2,q3,fun h=>absurd h h0⟩
             obtain rfl:z = 0:=by omega
             clear hb hno hE q1 q3
             (have kc1:=c1;have kc2:=c2;refine w0 ?_;(repeat' first|refine W2.mk ?_ ?_|refine W1.mk fun hc=>?_);all_goals clear kc2 kc1)
             refine ⟨0 + 1,⟨by omega,up_step h2 hok⟩,by omega,?_⟩
             exact le_auto
         · rw [decide_eq_false q3] at c2
           have hb0:=hno (fun h=>q3 (h hz).2.2.1)
           subst hb0
           clear hb hno h2 hE q1 q3
           (have kc1:=c1;have kc2:=c2;refine w0 ?_;(repeat' first|refine W2.mk ?_ ?_|refine W1.mk fun hc=>?_);all_goals clear kc2 kc1)
           refine rt1 ?_
           exact rv_bool rfl rfl
     · rw [Bool.not_eq_true] at q1
       rw [q1] at c1
       have hb0:=hno (fun h=>by have:=(h hz).1;rw [q1] at this;cases this)
       subst hb0
       clear hb hno h2 hE q1
       (have kc1:=c1;have kc2:=c2;refine w0 ?_;(repeat' first|refine W2.mk ?_ ?_|refine W1.mk fun hc=>?_);all_goals clear kc2 kc1)
       refine rt1 ?_
       exact rv_bool rfl rfl
   · have hb1:b = true:=hb.2 (fun i hi=>h2 i (by omega))
     subst hb1
     clear hb h2
     (refine w0 ?_;(repeat' first|refine W2.mk ?_ ?_|refine W1.mk fun hc=>?_))
     refine rt1 ?_
     exact rv_bool rfl rfl
end
section
variable {P:Program} {n:Nat} {ops:Array Oper} {o:Oper} {S:St} {t:Nat}
theorem take_cells {cs:List PV} {k:Nat} {N:BP} {w:World} {f:Nat → Option Value} (h:∀ (j:Nat) (A:PV),cs[j]? = some A → ∃ y,f j = some y ∧ y.oneCell' = true ∧ A.p N w y) :
   ∀ (j:Nat) (A:PV),(cs.take k)[j]? = some A → ∃ y,f j = some y ∧ y.oneCell' = true ∧ A.p N w y:=fun j A hj=>by
 rw [List.getElem?_take] at hj
 split at hj
 · exact h j A hj
 · cases hj
theorem u_load_bpT {ty:TypeId} {x:Operand} {cs As:List PV} {k:Nat} (hp:Pl n o t) (ho:o.op = .load ty x) (hT:AggC P ty true) (hk:Siz P ty k) (h0:Nat.blt 0 k = true) (hx:S.opd x = .bpt cs) (hl:Nat.ble k cs.length = true) (hc:cs.take k = As) :
   OpOk n P ops o (opdN x) (.per (aggP As)) [] S:=
 op_val hp fun C T g a w hAg hR=>by
   obtain ⟨d,hT,hd⟩:=hT.h
   have h:=opd_rep (x:=x) hAg (fun k h=>h) hR
   rw [hx] at h
   obtain ⟨b,of,hv,hb,hn,hcs⟩:=h
   obtain ⟨vs,g1,g2,g3⟩:=list_of_cells (cs.take k) (take_cells hcs)
   subst hc
   have hkl:=Nat.le_of_ble_eq_true hl
   have h0:=Nat.le_of_ble_eq_true h0
   have hlen:(cs.take k).length = k:=by rw [List.length_take];omega
   refine ⟨.agg vs.toArray,?_,⟨vs.toArray,rfl,g3⟩⟩
   simp only [execOp,ho,hv,Sem.run_bind,loadAt_agg hT hd (by rw [hk.h,g1,hlen]) (by omega) g2];rfl
theorem u_load_rpT {ty:TypeId} {x:Operand} {cs As:List PV} {k:Nat} (hp:Pl n o t) (ho:o.op = .load ty x) (hT:AggC P ty true) (hk:Siz P ty k) (h0:Nat.blt 0 k = true) (hx:S.opd x = .per (rptrP cs)) (hl:Nat.ble k cs.length = true) (hc:cs.take k = As) :
   OpOk n P ops o (opdN x) (.per (aggP As)) [] S:=
 op_val hp fun C T g a w hAg hR=>by
   obtain ⟨d,hT,hd⟩:=hT.h
   have h:=opd_rep (x:=x) hAg (fun k h=>h) hR
   rw [hx] at h
   obtain ⟨b,of,hv,hb,hn,hcs⟩:=h
   obtain ⟨vs,g1,g2,g3⟩:=list_of_cells (cs.take k) (take_cells hcs)
   subst hc
   have hkl:=Nat.le_of_ble_eq_true hl
   have h0:=Nat.le_of_ble_eq_true h0
   have hlen:(cs.take k).length = k:=by rw [List.length_take];omega
   refine ⟨.agg vs.toArray,?_,⟨vs.toArray,rfl,g3⟩⟩
   simp only [execOp,ho,hv,Sem.run_bind,loadAt_agg hT hd (by rw [hk.h,g1,hlen]) (by omega) g2];rfl
end
/-- a new row that a method hands back, as one that stays as it is -/
theorem FnM.frz3 {P:Program} {f:FuncId} {As:List Cnt} {pre:List (Nat × Blk)} {B:Blk} {e k:Nat} {es:List (List PV)} (h:FnM P f As pre (.row 3000 0) [(1000,B),(3000,.row e k es)]) :
   FnM P f As pre (.per (lstP k es)) [(1000,B)]:=by
 refine ⟨h.ent,fun C w vs hw hN hd hl ha hp=>(h.run C w vs hw hN hd hl ha hp).mono ?_⟩
 rintro ex w' ⟨v,g',he,hF,hv,hB⟩
 subst hw
 let g'':Gh:=⟨fun b=>if g'.ow b = some 3000 then none else g'.ow b,g'.ph,g'.rh⟩
 have hg:∀ b,g''.ow b = if g'.ow b = some 3000 then none else g'.ow b:=fun _=>rfl
 have hst:Stp C (fun i=>i = 3000) z0 z0 g' g'' w' w':=by
   refine ⟨Nat.le_refl _,fun _ _ _=>rfl,fun b _ hn=>by rw [hg,if_neg (hn 3000 rfl)],fun b _ hn=>?_,fun b i e=>?_,fun _=>.inl rfl,fun _ _=>⟨rfl,rfl⟩,fun _ _=>⟨rfl,rfl⟩,rfl,rfl,rfl⟩
   · rw [hg] at hn
     by_cases q:g'.ow b = some 3000
     · rw [q];simp
     · rwa [if_neg q] at hn
   · rw [hg] at e
     by_cases q:g'.ow b = some 3000
     · rw [if_pos q] at e;cases e
     · rw [if_neg q] at e;exact hF.dom b i e
 refine ⟨v,g'',he,⟨hF.os,hF.tape,hF.output,hF.size,hF.old,fun b id e=>hst.dom b id e,hF.keep⟩,?_,fun id=>?_⟩
 · have hrow:=hB 3000
   have hval:v = g'.rh 3000:=hv.2 rfl
   rw [hval]
   show lstAt (g''.N C) (g''.N C) k es w' (g'.rh 3000)
   rcases (show brep C z0 g' w' 3000 (.row e k es) from hrow) with ⟨q1,rfl⟩|⟨cap,cs,q1,q2,q3,q4,q5,q6,q7⟩
   · exact ⟨none,0,0,0,by rw [q1];rfl,by simp,by decide,fun _=>rfl,by simp,fun i cs hi=>by simp at hi⟩
   · have hdm:=hF.dom _ _ q3
     refine ⟨_,cap,g'.ph 3000,0,q1,q4,q5,by simp,fun _=>⟨rfl,hdm.1,fun hn=>?_⟩,fun i ps hi=>?_⟩
     · rcases hn with hn|hn
       · have h1:=hN _ hn
         rcases hdm.2 with q|q
         · omega
         · exact h1.2 q
       · rw [hg,if_pos q3] at hn;exact hn rfl
     · obtain ⟨r1,r2⟩:=q7 i ps hi
       refine ⟨r1,fun j A hj=>?_⟩
       obtain ⟨y,s1,s2,s3⟩:=r2 j A hj
       exact ⟨y,by rw [Nat.zero_add,cell_at q2];exact s1,s2,A.mono (Nat.le_refl _) (fun _ _ _=>rfl) hst.n s3⟩
 · have hid:=hB id
   unfold lookB
   cases hb:Nat.beq id 1000 with
   | false=>trivial
   | true=>
     obtain rfl:=nbeq_true.1 hb
     exact hst.brep (fun b i e=>(hF.dom b i e).1) (fun h=>by cases h) (show brep C z0 g' w' 1000 B from hid)
section
theorem rknow_Right (k:List Pc) (hk:pcsSz k) (b:Bool) (hb:b = true ↔ pcsOk k):Fn Tryz.prog 34 [pcsB k] (boR b):=by
 have hl0:=hk.1
 refine fi Tryz.func34 Tryz.ntmps34 ?_
 (refine w0 ?_;(repeat' first|refine W2.mk ?_ ?_|refine W1.mk fun hc=>?_))
 refine AW_loopP (X:=Nat) (fun z=>z ≤ k.length ∧ ∀ i,i < z → pcOk k i)
   (fun z=>mkSt [(0,pcsB k),(3,iC .i64 (z:Nat))] []) (fun z=>k.length - z) 0 ⟨Nat.zero_le _,fun i h=>absurd h (Nat.not_lt_zero _)⟩ ?_ ?_
 · exact le_auto
 · rintro z ⟨h1,h2⟩
   by_cases hz:z < k.length
   · have c1:=rspan_Right k[z].rg
     have c2:=rvs_Right k[z].set (hk.at hz).sz (decide (knsOk k[z].set)) (by simp)
     have hE:k[z].set ≠ [] ↔ ¬ k[z].set.length = 0:=by simp
     have hno:¬ pcOk k z → b = false:=fun h=>by rw [← Bool.not_eq_true,hb];exact fun q=>h (q z hz)
     by_cases q1:rgR k[z].rg = true
     · rw [q1] at c1
       by_cases q2:k[z].set.length = 0
       · have hb0:=hno (fun h=>absurd q2 (hE.1 (h hz).2.1))
         subst hb0
         clear hb hno h2 hE q1
         (have kc1:=c1;have kc2:=c2;refine w0 ?_;(repeat' (first|refine W2.mk ?_ ?_|refine W1.mk fun hc=>?_|((first|apply AL_t rfl|apply AL_0 rfl|apply AD_t rfl|apply AD_0 rfl);(focus (first|((apply u_k 5;(focus rfl);first|exact u_load_bpT ⟨rfl,rfl,rfl⟩ rfl inferInstance inferInstance rfl rfl rfl rfl|exact u_load_rpT ⟨rfl,rfl,rfl⟩ rfl inferInstance inferInstance rfl rfl rfl rfl))|(apply u_g;(focus rfl);apply op_gyes rfl rfl rfl rfl rfl;first|((apply u_k 5;(focus rfl);first|exact u_load_bpT ⟨rfl,rfl,rfl⟩ rfl inferInstance inferInstance rfl rfl rfl rfl|exact u_load_rpT ⟨rfl,rfl,rfl⟩ rfl inferInstance inferInstance rfl rfl rfl rfl)))));refine w0 ?_)));all_goals clear kc2 kc1)
         refine rt1 ?_
         exact rv_bool rfl rfl
       · by_cases q3:knsOk k[z].set
         · rw [decide_eq_true q3] at c2
           by_cases h0:0 < z
           · obtain ⟨q,rfl⟩:∃ q,z = q + 1:=⟨z - 1,by omega⟩
             have hqE:((q + 1:Nat):Int) - 1 = (q:Nat):=by omega
             have hq:=(h2 q (by omega)) (by omega)
             have hrq:=(rgR_iff _).1 q1
             have c3:=ref_Less k[q + 1].rg.lo k[q].rg.hi (by omega)
             have hsw:=cmpB_swap k[q].rg.hi k[q + 1].rg.lo
             have c5:=rvs_Same k[q].set k[q + 1].set (hk.at (by omega)).sz
             have hiff:pcOk k (q + 1) ↔ k[q].rg.op = false ∧ cmpB k[q].rg.hi k[q + 1].rg.lo ≤ 0 ∧ ¬ (k[q].rg.hi = k[q + 1].rg.lo ∧ k[q].set = k[q + 1].set):=
               ⟨fun h=>(h hz).2.2.2 (by omega),fun h _=>⟨q1,hE.2 q2,q3,fun _=>h⟩⟩
             clear hq hrq
             have hE2:((k[q + 1].set.length:Nat):Int) ≠ 0:=by omega
             cases o:k[q].rg.op with
             | true=>
               have hb0:=hno (fun h=>by have:=(hiff.1 h).1;rw [o] at this;cases this)
               subst hb0
               clear hb hno h2 hE q1 q3 hiff hsw
               (have ke1:=Lib.hid (hqE);have kc1:=c1;have kc2:=c2;have kc3:=c3;have kc4:=c5;refine w0e ?_;(repeat' (first|refine W2.mk ?_ ?_|refine W1.mk fun hc=>?_|((first|apply AL_t rfl|apply AL_0 rfl|apply AD_t rfl|apply AD_0 rfl);(focus (first|((apply u_k 5;(focus rfl);first|exact u_load_bpT ⟨rfl,rfl,rfl⟩ rfl inferInstance inferInstance rfl rfl rfl rfl|exact u_load_rpT ⟨rfl,rfl,rfl⟩ rfl inferInstance inferInstance rfl rfl rfl rfl))|(apply u_g;(focus rfl);apply op_gyes rfl rfl rfl rfl rfl;first|((apply u_k 5;(focus rfl);first|exact u_load_bpT ⟨rfl,rfl,rfl⟩ rfl inferInstance inferInstance rfl rfl rfl rfl|exact u_load_rpT ⟨rfl,rfl,rfl⟩ rfl inferInstance inferInstance rfl rfl rfl rfl)))));refine w0e ?_)));all_goals clear kc4 kc3 kc2 kc1 ke1)
               all_goals first|(exfalso;simp_all;done)|skip
               refine rt1 ?_
               exact rv_bool rfl rfl
             | false=>
               by_cases g:cmpB k[q].rg.hi k[q + 1].rg.lo ≤ 0
               · rw [decide_eq_false (by omega)] at c3
                 by_cases e:k[q].rg.hi = k[q + 1].rg.lo
                 · by_cases s:k[q].set = k[q + 1].set
                   · rw [decide_eq_true s] at c5
                     have hb0:=hno (fun h=>(hiff.1 h).2.2 ⟨e,s⟩)
                     subst hb0
                     clear hb hno h2 hE q1 q3 hiff s hsw
                     (have ke1:=Lib.hid (hqE);have kc1:=c1;have kc2:=c2;have kc3:=c3;have kc4:=c5;refine w0e ?_;(repeat' (first|refine W2.mk ?_ ?_|refine W1.mk fun hc=>?_|((first|apply AL_t rfl|apply AL_0 rfl|apply AD_t rfl|apply AD_0 rfl);(focus (first|((apply u_k 5;(focus rfl);first|exact u_load_bpT ⟨rfl,rfl,rfl⟩ rfl inferInstance inferInstance rfl rfl rfl rfl|exact u_load_rpT ⟨rfl,rfl,rfl⟩ rfl inferInstance inferInstance rfl rfl rfl rfl))|(apply u_g;(focus rfl);apply op_gyes rfl rfl rfl rfl rfl;first|((apply u_k 5;(focus rfl);first|exact u_load_bpT ⟨rfl,rfl,rfl⟩ rfl inferInstance inferInstance rfl rfl rfl rfl|exact u_load_rpT ⟨rfl,rfl,rfl⟩ rfl inferInstance inferInstance rfl rfl rfl rfl)))));refine w0e ?_)));all_goals clear kc4 kc3 kc2 kc1 ke1)
                     all_goals first|(exfalso;simp_all;done)|skip
                     refine rt1 ?_
                     exact rv_bool rfl rfl
                   · rw [decide_eq_false s] at c5
                     have hok:=hiff.2 ⟨o,g,fun h=>s h.2⟩
                     clear hb hno hE q1 q3 hiff s hsw
                     (have ke1:=Lib.hid (hqE);have kc1:=c1;have kc2:=c2;have kc3:=c3;have kc4:=c5;refine w0e ?_;(repeat' (first|refine W2.mk ?_ ?_|refine W1.mk fun hc=>?_|((first|apply AL_t rfl|apply AL_0 rfl|apply AD_t rfl|apply AD_0 rfl);(focus (first|((apply u_k 5;(focus rfl);first|exact u_load_bpT ⟨rfl,rfl,rfl⟩ rfl inferInstance inferInstance rfl rfl rfl rfl|exact u_load_rpT ⟨rfl,rfl,rfl⟩ rfl inferInstance inferInstance rfl rfl rfl rfl))|(apply u_g;(focus rfl);apply op_gyes rfl rfl rfl rfl rfl;first|((apply u_k 5;(focus rfl);first|exact u_load_bpT ⟨rfl,rfl,rfl⟩ rfl inferInstance inferInstance rfl rfl rfl rfl|exact u_load_rpT ⟨rfl,rfl,rfl⟩ rfl inferInstance inferInstance rfl rfl rfl rfl)))));refine w0e ?_)));all_goals clear kc4 kc3 kc2 kc1 ke1)
                     all_goals first|(exfalso;simp_all;done)|skip
                     refine ⟨q + 1 + 1,⟨by omega,up_step h2 hok⟩,by omega,?_⟩
                     exact le_auto
                 · have hok:=hiff.2 ⟨o,g,fun h=>e h.1⟩
                   rw [← toL_inj'] at e
                   clear hb hno hE q1 q3 hiff c5 hsw
                   (have ke1:=Lib.hid (hqE);have kc1:=c1;have kc2:=c2;have kc3:=c3;refine w0e ?_;(repeat' (first|refine W2.mk ?_ ?_|refine W1.mk fun hc=>?_|((first|apply AL_t rfl|apply AL_0 rfl|apply AD_t rfl|apply AD_0 rfl);(focus (first|((apply u_k 5;(focus rfl);first|exact u_load_bpT ⟨rfl,rfl,rfl⟩ rfl inferInstance inferInstance rfl rfl rfl rfl|exact u_load_rpT ⟨rfl,rfl,rfl⟩ rfl inferInstance inferInstance rfl rfl rfl rfl))|(apply u_g;(focus rfl);apply op_gyes rfl rfl rfl rfl rfl;first|((apply u_k 5;(focus rfl);first|exact u_load_bpT ⟨rfl,rfl,rfl⟩ rfl inferInstance inferInstance rfl rfl rfl rfl|exact u_load_rpT ⟨rfl,rfl,rfl⟩ rfl inferInstance inferInstance rfl rfl rfl rfl)))));refine w0e ?_)));all_goals clear kc3 kc2 kc1 ke1)
                   all_goals first|(exfalso;simp_all;done)|skip
                   refine ⟨q + 1 + 1,⟨by omega,up_step h2 hok⟩,by omega,?_⟩
                   exact le_auto
               · have hb0:=hno (fun h=>g (hiff.1 h).2.1)
                 rw [decide_eq_true (by omega)] at c3
                 subst hb0
                 clear hb hno h2 hE q1 q3 hiff hsw
                 (have ke1:=Lib.hid (hqE);have kc1:=c1;have kc2:=c2;have kc3:=c3;have kc4:=c5;refine w0e ?_;(repeat' (first|refine W2.mk ?_ ?_|refine W1.mk fun hc=>?_|((first|apply AL_t rfl|apply AL_0 rfl|apply AD_t rfl|apply AD_0 rfl);(focus (first|((apply u_k 5;(focus rfl);first|exact u_load_bpT ⟨rfl,rfl,rfl⟩ rfl inferInstance inferInstance rfl rfl rfl rfl|exact u_load_rpT ⟨rfl,rfl,rfl⟩ rfl inferInstance inferInstance rfl rfl rfl rfl))|(apply u_g;(focus rfl);apply op_gyes rfl rfl rfl rfl rfl;first|((apply u_k 5;(focus rfl);first|exact u_load_bpT ⟨rfl,rfl,rfl⟩ rfl inferInstance inferInstance rfl rfl rfl rfl|exact u_load_rpT ⟨rfl,rfl,rfl⟩ rfl inferInstance inferInstance rfl rfl rfl rfl)))));refine w0e ?_)));all_goals clear kc4 kc3 kc2 kc1 ke1)
                 all_goals first|(exfalso;simp_all;done)|skip
                 refine rt1 ?_
                 exact rv_bool rfl rfl
           · have hok:pcOk k z:=fun _=>⟨q1,hE.2 q2,q3,fun h=>absurd h h0⟩
             obtain rfl:z = 0:=by omega
             clear hb hno hE q1 q3
             (have kc1:=c1;have kc2:=c2;refine w0 ?_;(repeat' (first|refine W2.mk ?_ ?_|refine W1.mk fun hc=>?_|((first|apply AL_t rfl|apply AL_0 rfl|apply AD_t rfl|apply AD_0 rfl);(focus (first|((apply u_k 5;(focus rfl);first|exact u_load_bpT ⟨rfl,rfl,rfl⟩ rfl inferInstance inferInstance rfl rfl rfl rfl|exact u_load_rpT ⟨rfl,rfl,rfl⟩ rfl inferInstance inferInstance rfl rfl rfl rfl))|(apply u_g;(focus rfl);apply op_gyes rfl rfl rfl rfl rfl;first|((apply u_k 5;(focus rfl);first|exact u_load_bpT ⟨rfl,rfl,rfl⟩ rfl inferInstance inferInstance rfl rfl rfl rfl|exact u_load_rpT ⟨rfl,rfl,rfl⟩ rfl inferInstance inferInstance rfl rfl rfl rfl)))));refine w0 ?_)));all_goals clear kc2 kc1)
             refine ⟨0 + 1,⟨by omega,up_step h2 hok⟩,by omega,?_⟩
             exact le_auto
         · rw [decide_eq_false q3] at c2
           have hb0:=hno (fun h=>q3 (h hz).2.2.1)
           subst hb0
           clear hb hno h2 hE q1 q3
           (have kc1:=c1;have kc2:=c2;refine w0 ?_;(repeat' (first|refine W2.mk ?_ ?_|refine W1.mk fun hc=>?_|((first|apply AL_t rfl|apply AL_0 rfl|apply AD_t rfl|apply AD_0 rfl);(focus (first|((apply u_k 5;(focus rfl);first|exact u_load_bpT ⟨rfl,rfl,rfl⟩ rfl inferInstance inferInstance rfl rfl rfl rfl|exact u_load_rpT ⟨rfl,rfl,rfl⟩ rfl inferInstance inferInstance rfl rfl rfl rfl))|(apply u_g;(focus rfl);apply op_gyes rfl rfl rfl rfl rfl;first|((apply u_k 5;(focus rfl);first|exact u_load_bpT ⟨rfl,rfl,rfl⟩ rfl inferInstance inferInstance rfl rfl rfl rfl|exact u_load_rpT ⟨rfl,rfl,rfl⟩ rfl inferInstance inferInstance rfl rfl rfl rfl)))));refine w0 ?_)));all_goals clear kc2 kc1)
           refine rt1 ?_
           exact rv_bool rfl rfl
     · rw [Bool.not_eq_true] at q1
       rw [q1] at c1
       have hb0:=hno (fun h=>by have:=(h hz).1;rw [q1] at this;cases this)
       subst hb0
       clear hb hno h2 hE q1
       (have kc1:=c1;have kc2:=c2;refine w0 ?_;(repeat' (first|refine W2.mk ?_ ?_|refine W1.mk fun hc=>?_|((first|apply AL_t rfl|apply AL_0 rfl|apply AD_t rfl|apply AD_0 rfl);(focus (first|((apply u_k 5;(focus rfl);first|exact u_load_bpT ⟨rfl,rfl,rfl⟩ rfl inferInstance inferInstance rfl rfl rfl rfl|exact u_load_rpT ⟨rfl,rfl,rfl⟩ rfl inferInstance inferInstance rfl rfl rfl rfl))|(apply u_g;(focus rfl);apply op_gyes rfl rfl rfl rfl rfl;first|((apply u_k 5;(focus rfl);first|exact u_load_bpT ⟨rfl,rfl,rfl⟩ rfl inferInstance inferInstance rfl rfl rfl rfl|exact u_load_rpT ⟨rfl,rfl,rfl⟩ rfl inferInstance inferInstance rfl rfl rfl rfl)))));refine w0 ?_)));all_goals clear kc2 kc1)
       refine rt1 ?_
       exact rv_bool rfl rfl
   · have hb1:b = true:=hb.2 (fun i hi=>h2 i (by omega))
     subst hb1
     clear hb h2
     (refine w0 ?_;(repeat' first|refine W2.mk ?_ ?_|refine W1.mk fun hc=>?_))
     refine rt1 ?_
     exact rv_bool rfl rfl
theorem rknow_Same (l m:List Pc) (hl:pcsSz l):Fn Tryz.prog 35 [pcsB l,pcsB m] (boR (decide (l = m))):=by
 have hl0:=hl.1
 refine fi Tryz.func35 Tryz.ntmps35 ?_
 (refine w0 ?_;(repeat' first|refine W2.mk ?_ ?_|refine W1.mk fun hc=>?_))
 · refine rt1 ?_
   exact rv_bool rfl (by symm;rw [decide_eq_false_iff_not];intro h;subst h;omega)
 have hlm:l.length = m.length:=by omega
 refine AW_loopP (fun k=>k ≤ l.length ∧ l.take k = m.take k) (fun k=>mkSt [(0,pcsB l),(1,pcsB m),(4,bC false),(5,iC .i64 (k:Nat))] []) (fun k=>l.length - k) 0 ⟨Nat.zero_le _,rfl⟩ ?_ ?_
 · exact le_auto
 · rintro k ⟨hk,hpre⟩
   by_cases hlt:k < l.length
   · have hltm:k < m.length:=by omega
     have c1:=rvs_Same l[k].set m[k].set (hl.at hlt).sz
     have hEo:=rgE_o l[k].rg m[k].rg
     by_cases h1:l[k].rg = m[k].rg
     · rw [(rgE_iff _ _).2 h1] at hEo
       by_cases h2:l[k].set = m[k].set
       · rw [decide_eq_true h2] at c1
         have hlm1:l[k] = m[k]:=by
           cases hx:l[k];cases hy:m[k]
           rw [hx,hy] at h1 h2
           simp only at h1 h2
           rw [h1,h2]
         clear h2 h1
         (have kc1:=c1;refine w0 ?_;(repeat' (first|refine W2.mk ?_ ?_|refine W1.mk fun hc=>?_|((first|apply AL_t rfl|apply AL_0 rfl|apply AD_t rfl|apply AD_0 rfl);(focus (first|(exact op_eqA (us:=encRg l[k].rg) (vs:=encRg m[k].rg) ⟨rfl,rfl,rfl⟩ rfl rfl rfl (by first|exact .inl ⟨rfl,rfl⟩|exact .inr ⟨rfl,rfl⟩) rgG rfl hEo)|((apply u_k 5;(focus rfl);first|exact u_load_bpT ⟨rfl,rfl,rfl⟩ rfl inferInstance inferInstance rfl rfl rfl rfl|exact u_load_rpT ⟨rfl,rfl,rfl⟩ rfl inferInstance inferInstance rfl rfl rfl rfl))|(apply u_g;(focus rfl);apply op_gyes rfl rfl rfl rfl rfl;first|(exact op_eqA (us:=encRg l[k].rg) (vs:=encRg m[k].rg) ⟨rfl,rfl,rfl⟩ rfl rfl rfl (by first|exact .inl ⟨rfl,rfl⟩|exact .inr ⟨rfl,rfl⟩) rgG rfl hEo)|((apply u_k 5;(focus rfl);first|exact u_load_bpT ⟨rfl,rfl,rfl⟩ rfl inferInstance inferInstance rfl rfl rfl rfl|exact u_load_rpT ⟨rfl,rfl,rfl⟩ rfl inferInstance inferInstance rfl rfl rfl rfl)))));refine w0 ?_)));all_goals clear kc1)
         refine ⟨k + 1,⟨by omega,?_⟩,by omega,?_⟩
         · rw [take_snoc' l k hlt,take_snoc' m k hltm,hpre,hlm1]
         · exact le_auto
       · rw [decide_eq_false h2] at c1
         have hd:¬ l = m:=fun h=>h2 (by subst h;rfl)
         rw [decide_eq_false hd]
         clear h1 h2 hd
         (have kc1:=c1;refine w0 ?_;(repeat' (first|refine W2.mk ?_ ?_|refine W1.mk fun hc=>?_|((first|apply AL_t rfl|apply AL_0 rfl|apply AD_t rfl|apply AD_0 rfl);(focus (first|(exact op_eqA (us:=encRg l[k].rg) (vs:=encRg m[k].rg) ⟨rfl,rfl,rfl⟩ rfl rfl rfl (by first|exact .inl ⟨rfl,rfl⟩|exact .inr ⟨rfl,rfl⟩) rgG rfl hEo)|((apply u_k 5;(focus rfl);first|exact u_load_bpT ⟨rfl,rfl,rfl⟩ rfl inferInstance inferInstance rfl rfl rfl rfl|exact u_load_rpT ⟨rfl,rfl,rfl⟩ rfl inferInstance inferInstance rfl rfl rfl rfl))|(apply u_g;(focus rfl);apply op_gyes rfl rfl rfl rfl rfl;first|(exact op_eqA (us:=encRg l[k].rg) (vs:=encRg m[k].rg) ⟨rfl,rfl,rfl⟩ rfl rfl rfl (by first|exact .inl ⟨rfl,rfl⟩|exact .inr ⟨rfl,rfl⟩) rgG rfl hEo)|((apply u_k 5;(focus rfl);first|exact u_load_bpT ⟨rfl,rfl,rfl⟩ rfl inferInstance inferInstance rfl rfl rfl rfl|exact u_load_rpT ⟨rfl,rfl,rfl⟩ rfl inferInstance inferInstance rfl rfl rfl rfl)))));refine w0 ?_)));all_goals clear kc1)
         refine rt1 ?_
         exact rv_bool rfl rfl
     · have hd:¬ l = m:=fun h=>h1 (by subst h;rfl)
       rw [decide_eq_false hd]
       have he:rgE l[k].rg m[k].rg = false:=by rw [← Bool.not_eq_true,rgE_iff];exact h1
       rw [he] at hEo
       clear hd h1 he
       (have kc1:=c1;refine w0 ?_;(repeat' (first|refine W2.mk ?_ ?_|refine W1.mk fun hc=>?_|((first|apply AL_t rfl|apply AL_0 rfl|apply AD_t rfl|apply AD_0 rfl);(focus (first|(exact op_eqA (us:=encRg l[k].rg) (vs:=encRg m[k].rg) ⟨rfl,rfl,rfl⟩ rfl rfl rfl (by first|exact .inl ⟨rfl,rfl⟩|exact .inr ⟨rfl,rfl⟩) rgG rfl hEo)|((apply u_k 5;(focus rfl);first|exact u_load_bpT ⟨rfl,rfl,rfl⟩ rfl inferInstance inferInstance rfl rfl rfl rfl|exact u_load_rpT ⟨rfl,rfl,rfl⟩ rfl inferInstance inferInstance rfl rfl rfl rfl))|(apply u_g;(focus rfl);apply op_gyes rfl rfl rfl rfl rfl;first|(exact op_eqA (us:=encRg l[k].rg) (vs:=encRg m[k].rg) ⟨rfl,rfl,rfl⟩ rfl rfl rfl (by first|exact .inl ⟨rfl,rfl⟩|exact .inr ⟨rfl,rfl⟩) rgG rfl hEo)|((apply u_k 5;(focus rfl);first|exact u_load_bpT ⟨rfl,rfl,rfl⟩ rfl inferInstance inferInstance rfl rfl rfl rfl|exact u_load_rpT ⟨rfl,rfl,rfl⟩ rfl inferInstance inferInstance rfl rfl rfl rfl)))));refine w0 ?_)));all_goals clear kc1)
       refine rt1 ?_
       exact rv_bool rfl rfl
   · rw [List.take_of_length_le (by omega),List.take_of_length_le (by omega)] at hpre
     rw [decide_eq_true hpre]
     clear hpre
     (refine w0 ?_;(repeat' first|refine W2.mk ?_ ?_|refine W1.mk fun hc=>?_))
     refine rt1 ?_
     exact rv_bool rfl rfl
def pcLg (p:Pc):Bool:=decide (p.rg.lo.size > 40) || decide (p.rg.hi.size > 40) || longKns p.set 16
def longPcs (l:List Pc) (most:Int):Bool:=decide ((l.length:Int) > most) || l.any pcLg
theorem rknow_Long (l:List Pc) (most:Int) (hl:most ≤ 1000000000000):Fn Tryz.prog 25 [pcsB l,iC .i64 most] (boR (longPcs l most)):=by
 refine fi Tryz.func25 Tryz.ntmps25 ?_
 (refine w0 ?_;(repeat' first|refine W2.mk ?_ ?_|refine W1.mk fun hc=>?_))
 · refine rt1 ?_
   exact rv_bool rfl (by unfold longPcs;rw [decide_eq_true hc];rfl)
 refine AW_loopP (fun k=>k ≤ l.length ∧ (l.take k).any pcLg = false) (fun k=>mkSt [(0,pcsB l),(1,iC .i64 most),(4,bC false),(5,iC .i64 (k:Nat))] []) (fun k=>l.length - k) 0 ⟨Nat.zero_le _,by simp⟩ ?_ ?_
 · exact le_auto
 · rintro k ⟨hk,hpre⟩
   by_cases hlt:k < l.length
   · have hsn:(l.take (k + 1)).any pcLg = ((l.take k).any pcLg || pcLg l[k]):=by rw [take_snoc' l k hlt,List.any_append];simp
     have hyes:pcLg l[k] = true → longPcs l most = true:=fun hq=>by unfold longPcs;rw [Bool.or_eq_true,List.any_eq_true];exact .inr ⟨l[k],List.getElem_mem hlt,hq⟩
     have c1:=rvs_Long l[k].set 16 (by decide)
     by_cases q1:l[k].rg.lo.size > 40
     · have hd:=hyes (by simp [pcLg,q1])
       rw [hd]
       clear hd hsn hpre hyes
       (have kc1:=c1;refine w0 ?_;(repeat' first|refine W2.mk ?_ ?_|refine W1.mk fun hc=>?_);all_goals clear kc1)
       refine rt1 ?_
       exact rv_bool rfl rfl
     · by_cases q2:l[k].rg.hi.size > 40
       · have hd:=hyes (by simp [pcLg,q2])
         rw [hd]
         clear hd hsn hpre hyes
         (have kc1:=c1;refine w0 ?_;(repeat' first|refine W2.mk ?_ ?_|refine W1.mk fun hc=>?_);all_goals clear kc1)
         refine rt1 ?_
         exact rv_bool rfl rfl
       · cases q3:longKns l[k].set 16 with
         | true=>
           have hd:=hyes (by simp [pcLg,q3])
           rw [hd]
           rw [q3] at c1
           clear hd hsn hpre hyes
           (have kc1:=c1;refine w0 ?_;(repeat' first|refine W2.mk ?_ ?_|refine W1.mk fun hc=>?_);all_goals clear kc1)
           refine rt1 ?_
           exact rv_bool rfl rfl
         | false=>
           have hf:pcLg l[k] = false:=by simp [pcLg,q1,q2,q3]
           rw [hpre,hf] at hsn
           rw [q3] at c1
           clear hpre hyes hf
           (have kc1:=c1;refine w0 ?_;(repeat' first|refine W2.mk ?_ ?_|refine W1.mk fun hc=>?_);all_goals clear kc1)
           refine ⟨k + 1,⟨by omega,hsn⟩,by omega,?_⟩
           exact le_auto
   · have e:l.take k = l:=List.take_of_length_le (by omega)
     rw [e] at hpre
     have hd:longPcs l most = false:=by unfold longPcs;rw [hpre,Bool.or_false,decide_eq_false_iff_not];assumption
     rw [hd]
     clear hd hpre e
     (refine w0 ?_;(repeat' first|refine W2.mk ?_ ?_|refine W1.mk fun hc=>?_))
     refine rt1 ?_
     exact rv_bool rfl rfl
theorem longPcs_sz {l:List Pc} {most:Int} (h:longPcs l most = false):(l.length:Int) ≤ most ∧ ∀ p ∈ l,p.rg.lo.size ≤ 40 ∧ p.rg.hi.size ≤ 40 ∧ longKns p.set 16 = false:=by
 unfold longPcs at h
 rw [Bool.or_eq_false_iff,decide_eq_false_iff_not] at h
 refine ⟨by omega,fun p hp=>?_⟩
 have:=List.any_eq_false.1 h.2 p hp
 simp [pcLg] at this
 exact ⟨by omega,by omega,this.2⟩
end
end Go.Proofs.YtfcpkegmdlchhaaGreat
