/- Texts joined: KnP SoP Span Clo KnW. -/
import Derived.Test.YtembiemaiacdfaaGreatJ16
import Derived.Test.YtembiemaiacdfaaGreatJ05
import Derived.Test.YtembiemaiacdfaaGreatJ13
import Derived.Shelf.Slices.CompactS
import Derived.Test.YtembiemaiacdfaaGreatJ15
set_option maxRecDepth 10000
set_option maxHeartbeats 8000000
namespace Go.Proofs.YtembiemaiacdfaaGreat
/-! ### sets -/
theorem knsOk_nil:knsOk []:=fun i hi=>by simp at hi
theorem knsOk_cons (k:Kn) (l:List Kn):knsOk (k :: l) ↔ (1 ≤ k.rep ∧ k.rep ≤ 16 ∧ k.runs ≠ [] ∧ rnsOk k.runs) ∧ (∀ q,l.head? = some q → k.rep < q.rep) ∧ knsOk l:=by
 constructor
 · intro h
   have h0:=h 0 (by simp) (by simp)
   refine ⟨⟨h0.1,h0.2.1,h0.2.2.1,h0.2.2.2.1⟩,fun q hq=>?_,fun i hi hi'=>?_⟩
   · cases l with
     | nil=>cases hq
     | cons z l=>
       cases hq
       exact (h 1 (by simp) (by simp)).2.2.2.2 (by omega)
   · have h1:=h (i + 1) (by simpa using hi) (by simpa using hi)
     simp only [List.getElem_cons_succ,Nat.add_sub_cancel] at h1
     refine ⟨h1.1,h1.2.1,h1.2.2.1,h1.2.2.2.1,fun h0=>?_⟩
     have h2:=h1.2.2.2.2 (by omega)
     obtain ⟨j,rfl⟩:∃ j,i = j + 1:=⟨i - 1,by omega⟩
     exact h2
 · rintro ⟨⟨h1,h2,h2',h2''⟩,h3,h4⟩ i hi hi'
   cases i with
   | zero=>exact ⟨h1,h2,h2',h2'',fun q=>absurd q (Nat.lt_irrefl _)⟩
   | succ i=>
     have h5:=h4 i (by simpa using hi) (by simpa using hi)
     simp only [List.getElem_cons_succ,Nat.add_sub_cancel]
     refine ⟨h5.1,h5.2.1,h5.2.2.1,h5.2.2.2.1,fun _=>?_⟩
     cases i with
     | zero=>
       cases l with
       | nil=>simp at hi
       | cons z l=>exact h3 z rfl
     | succ i=>exact h5.2.2.2.2 (by omega)
theorem setFrom_ok:∀ (T:List (List Rn)) (i:Nat),i + T.length ≤ 16 → knsOk (setFrom ofR i T) ∧ ∀ q,(setFrom ofR i T).head? = some q → (i:Int) < q.rep:=by
 intro T
 induction T with
 | nil=>intro i _;exact ⟨knsOk_nil,fun q hq=>by cases hq⟩
 | cons l T ih=>
   intro i hi
   rw [List.length_cons] at hi
   obtain ⟨h1,h2⟩:=ih (i + 1) (by omega)
   rw [setFrom]
   by_cases c:(ofR l).length = 0
   · rw [if_pos c,List.nil_append]
     exact ⟨h1,fun q hq=>by have:=h2 q hq;omega⟩
   · rw [if_neg c]
     refine ⟨(knsOk_cons _ _).2 ⟨⟨by simp only;omega,by simp only;omega,fun e=>c (by simp only at e;rw [e];rfl),ofR_ok l⟩,fun q hq=>?_,h1⟩,fun q hq=>?_⟩
     · have:=h2 q hq;simp only;omega
     · cases hq;simp only;omega
theorem vsOf_ok (s:List Kn):knsOk (vsOf ofR s):=(setFrom_ok _ 0 (by rw [tabOf_len];omega)).1
theorem setFrom_id:∀ (T:List (List Rn)) (i:Nat),(∀ l ∈ T,rnsOk l) → setFrom ofR i T = setFrom id i T:=by
 intro T
 induction T with
 | nil=>intro i _;rfl
 | cons l T ih=>
   intro i h
   rw [setFrom,setFrom,ofR_id (h l (by simp)),ih _ (fun l hl=>h l (List.mem_cons_of_mem _ hl))]
   rfl
theorem vsOf_id {s:List Kn} (h:knsOk s):vsOf ofR s = s:=by
 have:=vsOf_right s h
 unfold vsOf at this ⊢
 rw [setFrom_id _ _ (tab_rnsOk h)]
 exact this
/-- what a table's set has of a replica -/
theorem tabAt_from:∀ (T:List (List Rn)) (i r:Nat),tabAt (setFrom ofR i T) r = if h:i ≤ r ∧ r - i < T.length then ofR (T[r - i]'h.2) else []:=by
 intro T
 induction T with
 | nil=>intro i r;rw [dif_neg (by simp)];rfl
 | cons l T ih=>
   intro i r
   rw [setFrom]
   have happ:∀ a b:List Kn,tabAt (a ++ b) r = tabAt a r ++ tabAt b r:=fun a b=>by unfold tabAt;rw [List.flatMap_append]
   rw [happ,ih]
   have hhead:tabAt (if (ofR l).length = 0 then [] else [⟨(i:Int) + 1,ofR l⟩]) r = if i = r then ofR l else []:=by
     by_cases c:(ofR l).length = 0
     · rw [if_pos c]
       split
       · exact (List.eq_nil_of_length_eq_zero c).symm
       · rfl
     · rw [if_neg c]
       unfold tabAt
       simp only [List.flatMap_cons,List.flatMap_nil,List.append_nil]
       by_cases e:i = r
       · rw [if_pos (by omega),if_pos e]
       · rw [if_neg (by omega),if_neg e]
   rw [hhead]
   by_cases e:i = r
   · subst e
     rw [if_pos rfl,dif_neg (by omega),List.append_nil,dif_pos ⟨Nat.le_refl _,by simp⟩]
     simp
   · rw [if_neg e,List.nil_append]
     by_cases c:i + 1 ≤ r ∧ r - (i + 1) < T.length
     · rw [dif_pos c,dif_pos ⟨by omega,by rw [List.length_cons];omega⟩]
       obtain ⟨d,hd⟩:∃ d,r - i = d + 1:=⟨r - i - 1,by omega⟩
       have hd':r - (i + 1) = d:=by omega
       simp only [hd,hd',List.getElem_cons_succ]
     · rw [dif_neg c,dif_neg (by rw [List.length_cons];omega)]
theorem tabOf_vsOf (s:List Kn):tabOf (vsOf ofR s) = (tabOf s).map ofR:=by
 apply List.ext_getElem?
 intro i
 by_cases hi:i < 16
 · have hT:=tabOf_len s
   rw [tabOf_get _ hi,List.getElem?_map,tabOf_get _ hi]
   unfold vsOf
   rw [tabAt_from,dif_pos ⟨Nat.zero_le _,by omega⟩]
   have:=tabOf_get s hi
   obtain ⟨h1,h2⟩:=List.getElem?_eq_some_iff.1 this
   simp only [Nat.sub_zero,h2,Option.map_some]
 · rw [List.getElem?_eq_none (by rw [tabOf_len];omega),List.getElem?_eq_none (by rw [List.length_map,tabOf_len];omega)]
/-- two sets, replica by replica -/
def mkSet (g:List Rn → List Rn → List Rn) (a b:List Kn):List Kn:=setFrom id 0 (List.zipWith g (tabOf a) (tabOf b))
def orR (a b:List Rn):List Rn:=opR (byR (fun x y=>x || y) a b) a b
theorem orR_eq (a b:List Rn):orR a b = ofR (a ++ b):=opR_or a b
theorem setFrom_map:∀ (T:List (List Rn)) (i:Nat),setFrom id i (T.map ofR) = setFrom ofR i T:=by
 intro T
 induction T with
 | nil=>intro i;rfl
 | cons l T ih=>intro i;rw [List.map_cons,setFrom,setFrom,ih];rfl
theorem tabOf_app (a b:List Kn):tabOf (a ++ b) = List.zipWith (· ++ ·) (tabOf a) (tabOf b):=by
 apply List.ext_getElem?
 intro i
 by_cases hi:i < 16
 · rw [tabOf_get _ hi,List.getElem?_zipWith,tabOf_get _ hi,tabOf_get _ hi]
   simp only
   unfold tabAt
   rw [List.flatMap_append]
 · rw [List.getElem?_eq_none (by rw [tabOf_len];omega),List.getElem?_eq_none (by rw [List.length_zipWith,tabOf_len,tabOf_len];omega)]
theorem zip_congr {g h:List Rn → List Rn → List Rn}:∀ (T U:List (List Rn)),(∀ t u,t ∈ T → u ∈ U → g t u = h t u) → List.zipWith g T U = List.zipWith h T U:=by
 intro T
 induction T with
 | nil=>intro U _;rfl
 | cons t T ih=>
   intro U hh
   cases U with
   | nil=>rfl
   | cons u U=>
     rw [List.zipWith_cons_cons,List.zipWith_cons_cons,hh t u (by simp) (by simp),ih U (fun t u a b=>hh t u (List.mem_cons_of_mem _ a) (List.mem_cons_of_mem _ b))]
/-- joined set by set, or made right at once -/
theorem mkSet_or (X Y:List Kn):mkSet orR (vsOf ofR X) (vsOf ofR Y) = vsOf ofR (X ++ Y):=by
 unfold mkSet
 rw [tabOf_vsOf,tabOf_vsOf,List.zipWith_map]
 unfold vsOf
 rw [tabOf_app,← setFrom_map,List.map_zipWith]
 congr 1
 refine zip_congr _ _ (fun t u _ _=>?_)
 rw [orR_eq]
 exact ofR_cong (fun n=>by rw [hasR_app,hasR_app,ofR_has,ofR_has])
/-! ### what is known of a text -/
def atK (k:List Pc) (s:ByteArray):List Kn:=vsOf ofR (k.flatMap fun p=>if rgHas p.rg s then p.set else [])
theorem atK_ok (k:List Pc) (s:ByteArray):knsOk (atK k s):=vsOf_ok _
theorem atK_app (a b:List Pc) (s:ByteArray):mkSet orR (atK a s) (atK b s) = atK (a ++ b) s:=by
 unfold atK
 rw [mkSet_or,List.flatMap_append]
theorem flat_getK {k:List Pc} (h:pcsOk k) (s:ByteArray):(k.flatMap fun p=>if rgHas p.rg s then p.set else []) = getK k s:=by
 induction k with
 | nil=>rfl
 | cons p k ih=>
   obtain ⟨⟨hp,_,_⟩,_,hk⟩:=(pcsOk_cons _ _).1 h
   rw [List.flatMap_cons,ih hk]
   by_cases c:rgHas p.rg s = true
   · rw [if_pos c,getK_in c]
     have:getK k s = []:=by
       refine Classical.byContradiction fun z=>?_
       obtain ⟨x,y⟩:=pcsOk_low h z
       rcases ((rgHas_iff hp s).1 c).2 with w|w
       · rw [x] at w;cases w
       · grind
     rw [this,List.append_nil]
   · rw [if_neg c,List.nil_append,getK_out c]
theorem getK_ok {k:List Pc} (h:pcsOk k) (s:ByteArray):knsOk (getK k s):=by
 induction k with
 | nil=>exact knsOk_nil
 | cons p k ih=>
   obtain ⟨⟨_,_,h3⟩,_,hk⟩:=(pcsOk_cons _ _).1 h
   rw [getK]
   split
   · exact h3
   · exact ih hk
theorem atK_get {k:List Pc} (h:pcsOk k) (s:ByteArray):atK k s = getK k s:=by
 unfold atK
 rw [flat_getK h,vsOf_id (getK_ok h s)]
/-! ### edges -/
def rgsOf (k:List Pc):List Rg:=k.map Pc.rg
def edgK (k:List Pc):List ByteArray:=edgT [emB] (rgsOf k)
theorem edgK_up (k:List Pc):upT (edgK k):=edgT_up _ _ (by simp)
theorem edgK_em (k:List Pc):emB ∈ edgK k:=(edgT_mem _ _ _).2 (.inl (by simp))
theorem edgK_ok (k:List Pc):edgOk (edgK k):=fun m hm=>by
 rcases (edgT_mem _ _ _).1 hm with h|⟨r,_,h1,h2⟩
 · have h:m = emB:=by simpa using h
   rw [h];decide
 · have:=(rgR_iff r).1 h1
   rcases h2 with h2|⟨_,h2⟩ <;> rw [h2]
   · exact this.1
   · exact this.2.1
theorem rgHas_mid {r:Rg} {e n:ByteArray} (hen:e ≤ n) (h:∀ m,isEdge r m → m ≤ e ∨ n < m):rgHas r e = rgHas r n:=by
 cases c:rgR r with
 | false=>unfold rgHas;rw [c];rfl
 | true=>
   rw [Bool.eq_iff_iff,rgHas_iff c,rgHas_iff c]
   have h1:=h r.lo ⟨c,.inl rfl⟩
   cases o:r.op with
   | true=>
     constructor
     · rintro ⟨a,_⟩;exact ⟨by grind,.inl rfl⟩
     · rintro ⟨a,_⟩;exact ⟨by grind,.inl rfl⟩
   | false=>
     have h2:=h r.hi ⟨c,.inr ⟨o,rfl⟩⟩
     constructor
     · rintro ⟨a,b|b⟩
       · cases b
       · exact ⟨by grind,.inr (by grind)⟩
     · rintro ⟨a,b|b⟩
       · cases b
       · exact ⟨by grind,.inr (by grind)⟩
theorem atK_mid {k:List Pc} {e n:ByteArray} (hen:e ≤ n) (h:∀ p ∈ k,∀ m,isEdge p.rg m → m ≤ e ∨ n < m):atK k e = atK k n:=by
 unfold atK
 congr 1
 rw [List.flatMap_def,List.flatMap_def]
 congr 1
 exact List.map_congr_left fun p hp=>by rw [rgHas_mid hen (h p hp)]
theorem edgK_isEdge {k:List Pc} {p:Pc} (hp:p ∈ k) {m:ByteArray} (h:isEdge p.rg m):m ∈ edgK k:=(edgT_mem _ _ _).2 (.inr ⟨p.rg,List.mem_map_of_mem hp,h⟩)
/-! ### made right, joined, less -/
def ofK (k:List Pc):List Pc:=bldK (atK k) (edgK k)
theorem ofK_cst (k:List Pc):CstT (atK k) (edgK k):=fun _ _ hen h=>atK_mid hen (fun _ hp m hm=>h m (edgK_isEdge hp hm))
theorem ofK_ok (k:List Pc):pcsOk (ofK k) ∧ ∀ s,getK (ofK k) s = atK k s:=bldK_ok (atK_ok k) (edgK_up k) (edgK_ok k) (edgK_em k) (ofK_cst k)
theorem ofK_id {k:List Pc} (h:pcsOk k):ofK k = k:=bldK_eq (atK_ok k) (edgK_up k) (edgK_ok k) (edgK_em k) (ofK_cst k) h (fun s=>(atK_get h s).symm)
end Go.Proofs.YtembiemaiacdfaaGreat
namespace Go.Proofs.YtembiemaiacdfaaGreat
open Go.RowKit Go.Shelf
abbrev ofLB (l:List UInt8):ByteArray:=⟨l.toArray⟩
abbrev toLB (s:ByteArray):List UInt8:=s.data.toList
theorem ofLB_to (s:ByteArray):ofLB (toLB s) = s:=by cases s;rfl
def compB (l:List ByteArray):List ByteArray:=(Lib.compact (l.map toLB)).map ofLB
section
variable {d:Array (List UInt8)}
theorem cmp_mem:∀ (m:Nat) (x:List UInt8),x ∈ Lib.compactUpTo d m ↔ ∃ j,j < m ∧ d[j]! = x:=by
 intro m
 induction m with
 | zero=>intro x;simp [Lib.compactUpTo]
 | succ m ih=>
   intro x
   rw [Lib.compactUpTo_succ,List.mem_append,ih]
   by_cases k:Lib.keeps d m = true
   · rw [if_pos k]
     constructor
     · rintro (⟨j,h1,h2⟩|h)
       · exact ⟨j,by omega,h2⟩
       · exact ⟨m,by omega,by simpa using Eq.symm (List.mem_singleton.1 h)⟩
     · rintro ⟨j,h1,h2⟩
       rcases Nat.lt_or_ge j m with q|q
       · exact .inl ⟨j,q,h2⟩
       · obtain rfl:j = m:=by omega
         exact .inr (by rw [h2];exact List.mem_singleton.2 rfl)
   · rw [if_neg k]
     constructor
     · rintro (⟨j,h1,h2⟩|h)
       · exact ⟨j,by omega,h2⟩
       · cases h
     · rintro ⟨j,h1,h2⟩
       rcases Nat.lt_or_ge j m with q|q
       · exact .inl ⟨j,q,h2⟩
       · obtain rfl:j = m:=by omega
         have:¬ (j = 0 ∨ d[j]! ≠ d[j - 1]!):=by
           intro z;exact k (by unfold Lib.keeps;exact decide_eq_true z)
         have h3:d[j]! = d[j - 1]!:=Classical.byContradiction fun z=>this (.inr z)
         exact .inl ⟨j - 1,by omega,by rw [← h3];exact h2⟩
theorem cmp_up (h:∀ i j,i < j → j < d.size → ¬ ofLB d[j]! < ofLB d[i]!):∀ m,m ≤ d.size → ((Lib.compactUpTo d m).map ofLB).Pairwise (· < ·):=by
 intro m
 induction m with
 | zero=>intro _;simp [Lib.compactUpTo]
 | succ m ih=>
   intro hm
   have h1:=ih (by omega)
   rw [Lib.compactUpTo_succ]
   by_cases k:Lib.keeps d m = true
   · rw [if_pos k,List.map_append,List.pairwise_append]
     refine ⟨h1,by simp,fun x hx y hy=>?_⟩
     have hy:y = ofLB d[m]!:=by simpa using hy
     subst hy
     obtain ⟨z,hz,rfl⟩:=List.mem_map.1 hx
     obtain ⟨j,hj,rfl⟩:=(cmp_mem m z).1 hz
     have k':m = 0 ∨ d[m]! ≠ d[m - 1]!:=by unfold Lib.keeps at k;exact of_decide_eq_true k
     have a:=h (m - 1) m (by omega) (by omega)
     have ne:ofLB d[m]! ≠ ofLB d[m - 1]!:=fun e=>by
       rcases k' with q|q
       · omega
       · exact q (by have:=congrArg toLB e;exact this)
     rcases Nat.lt_or_ge j (m - 1) with q|q
     · have b:=h j (m - 1) q (by omega)
       grind
     · obtain rfl:j = m - 1:=by omega
       grind
   · rw [if_neg k,List.append_nil]
     exact h1
end
theorem compB_spec {l:List ByteArray} (h:l.Pairwise (fun x y=>¬ y < x)):upT (compB l) ∧ ∀ s,s ∈ compB l ↔ s ∈ l:=by
 have get:∀ i (hi:i < l.length),(l.map toLB).toArray[i]! = toLB l[i]:=fun i hi=>by
   rw [getElem!_pos _ i (by simpa using hi)];simp
 unfold compB Lib.compact
 refine ⟨cmp_up (fun i j hij hj=>?_) _ (by simp),fun s=>?_⟩
 · have hj:j < l.length:=by simpa using hj
   rw [get i (by omega),get j hj,ofLB_to,ofLB_to]
   exact List.pairwise_iff_getElem.1 h i j (by omega) hj hij
 · rw [List.mem_map]
   constructor
   · rintro ⟨x,hx,rfl⟩
     obtain ⟨j,hj,rfl⟩:=(cmp_mem _ _).1 hx
     have hj:j < l.length:=by simpa using hj
     rw [get j hj,ofLB_to]
     exact List.getElem_mem hj
   · intro hs
     obtain ⟨i,hi,rfl⟩:=List.getElem_of_mem hs
     exact ⟨toLB l[i],(cmp_mem _ _).2 ⟨i,by simpa using hi,get i hi⟩,ofLB_to _⟩
theorem compB_len (l:List ByteArray):(compB l).length ≤ l.length:=by
 unfold compB Lib.compact Lib.compactUpTo
 simp only [List.length_map]
 have:=List.length_filter_le (Lib.keeps (List.map toLB l).toArray) (List.range l.length)
 simpa using this
/-- sorted, each once -/
theorem sortC_eq {l E:List ByteArray} (h:∀ s ∈ l,s.size ≤ 1000000000000) (hu:upT E) (hm:∀ s,s ∈ E ↔ s ∈ l):compB (sortT l) = E:=by
 obtain ⟨h1,h2⟩:=sortT_spec h
 obtain ⟨h3,h4⟩:=compB_spec h2
 exact upT_uniq h3 hu (fun s=>by rw [h4,h1.mem_iff,hm])
def coCompS_ren:Go.Shelf.Ren:=⟨fun|194=>147|n=>n,fun|0=>0|3=>3|4=>4|9=>9|31=>139|n=>n,fun n=>n⟩
theorem coCompS (h:Tryz.f147 = Body.n194 coCompS_ren):Lays.n194 Tryz.prog coCompS_ren:={ mixed:=by kernel_rfl,f194:=Tryz.func147.trans (congrArg some h),t0:=Tryz.underlying0,a0:=Tryz.isAgg0,z0:=Tryz.sizeOf0,v0:=Tryz.zeroValue0,t3:=Tryz.underlying3,a3:=Tryz.isAgg3,z3:=Tryz.sizeOf3,v3:=Tryz.zeroValue3,t4:=Tryz.underlying4,a4:=Tryz.isAgg4,z4:=Tryz.sizeOf4,v4:=Tryz.zeroValue4,t9:=Tryz.underlying9,a9:=Tryz.isAgg9,z9:=Tryz.sizeOf9,v9:=Tryz.zeroValue9,t31:=Tryz.underlying139,a31:=Tryz.isAgg139,z31:=Tryz.sizeOf139,v31:=Tryz.zeroValue139 }
theorem comp_str (l:List ByteArray) (hl:l.length ≤ 1000000000) :
   FnM Tryz.prog 147 [.row 2000 0] [(2000,.row 9 1 (l.map strP))] (.row 3000 0) [(3000,.row 9 1 ((compB l).map strP))]:=by
 refine ⟨ent_of Tryz.func147 (by kernel_rfl) (by kernel_rfl),?_⟩
 intro C w vs hW hN hO hvl hvs hb
 obtain ⟨v0,rfl⟩:∃ v0,vs = [v0]:=by match vs,hvl with|[a],_=>exact ⟨a,rfl⟩
 have h0:=hvs 0 v0 _ rfl rfl
 have e0:v0 = C.G0.rh 2000:=h0.2 rfl
 subst e0
 have hrow:=hb 2000
 have L:=coCompS (by kernel_rfl)
 rcases hrow with ⟨q1,q2⟩|⟨cap,cs,q1,q2,q3,q4,q5,q6,q7⟩
 · have hl0:l = []:=by simpa using q2
   rw [q1]
   refine (Any.slices_Compact_string_empty L none 0 w).mono ?_
   rintro e' w' ⟨rfl,rfl⟩
   refine ⟨_,⟨C.G0.ow,C.G0.ph,fun i=>if i = 3000 then .slice none 0 0 else C.G0.rh i⟩,rfl,⟨rfl,rfl,rfl,Nat.le_refl _,fun _ _ _=>rfl,fun b id h=>⟨(hO b id h).1,.inr (hO b id h).2⟩,fun id hf=>⟨rfl,?_⟩⟩,⟨Nat.le_refl _,fun _=>rfl⟩,fun id=>?_⟩
   · by_cases q:id = 3000
     · subst q;cases hf
     · exact if_neg q
   · by_cases hid:id = 3000
     · subst hid
       exact .inl ⟨rfl,by rw [hl0];rfl⟩
     · rw [show lookB id [(3000,Blk.row 9 1 ((compB l).map strP))] = .none by simp [lookB,nbeq_false hid]];trivial
 · rw [List.length_map] at q1 q4
   obtain ⟨b,hb0⟩:∃ b,b = C.G0.ph 2000:=⟨_,rfl⟩
   rw [← hb0] at q1 q2 q3
   have hbl:=hO b 2000 q3
   have hH:Sort.Holds encStr w b 0 (l.map toLB).toArray:=by
     intro t ht
     have ht':t < l.length:=by simpa using ht
     obtain ⟨_,g⟩:=q7 t (strP l[t]) (by rw [List.getElem?_map,List.getElem?_eq_getElem ht'];rfl)
     obtain ⟨y,y1,_,y3⟩:=g 0 _ rfl
     have y3:y = .string l[t]:=y3
     subst y3
     rw [Nat.mul_one,Nat.add_zero] at y1
     rw [getElem!_pos _ t (by simpa using ht'),Nat.zero_add]
     refine ⟨?_,by simp [World.frozen?,q2]⟩
     have e:encStr ((l.map toLB).toArray[t]'(by simpa using ht')) = .string l[t]:=by simp [encStr]
     rw [e]
     simp [World.cell?,q2,y1]
   have:=Any.slices_Compact_string (P:=Tryz.prog) (ρ:=coCompS_ren) L b 0 cap (l.map toLB) w hH (by simp;omega) (by simpa using q4)
   rw [List.length_map] at this
   rw [q1]
   refine this.mono ?_
   have hcl:=compB_len l
   have hcE:(compB l).map toLB = Lib.compact (l.map toLB):=by
     unfold compB;rw [List.map_map];exact List.map_id' _
   have hcL:(Lib.compact (l.map toLB)).length = (compB l).length:=by rw [← hcE,List.length_map]
   rw [hcL]
   generalize Lib.compact (l.map toLB) = Z at *
   rintro e' w' ⟨rfl,n,rfl⟩
   have hblock:∀ (f:Array Value → Array Value) b',b' ≠ b → (Sort.mapBlock (Sort.ahead w n) b f).heap[b']? = w.heap[b']?:=fun f b' h'=>by
     show ((w.heap.modify b (Sort.onCells f)))[b']? = _
     rw [Array.getElem?_modify,if_neg (Ne.symm h')]
   have hthis:∀ (f:Array Value → Array Value),(Sort.mapBlock (Sort.ahead w n) b f).heap[b]? = some (.cells (f cs) 9 (0,0)):=fun f=>by
     show ((w.heap.modify b (Sort.onCells f)))[b]? = _
     rw [Array.getElem?_modify,if_pos rfl,q2]
     rfl
   have hsz:∀ (f:Array Value → Array Value),w.heap.size = (Sort.mapBlock (Sort.ahead w n) b f).heap.size:=fun f=>by
     show _ = (w.heap.modify b (Sort.onCells f)).size
     simp
   unfold Sort.putRow
   generalize hF:Sort.putCells encStr 0 (Z ++ List.replicate (l.length - (compB l).length) []).toArray = f
   refine ⟨_,⟨fun i=>if C.G0.ow i = some 2000 then some 3000 else C.G0.ow i,fun i=>if i = 3000 then b else C.G0.ph i,fun i=>if i = 3000 then .slice (some ⟨b,0,none⟩) (compB l).length cap else C.G0.rh i⟩,rfl,
     ⟨rfl,rfl,rfl,Nat.le_of_eq (hsz f),fun b' _ h'=>hblock f b' (fun e=>h' (e ▸ hbl.2)),fun b' id h=>?_,fun id hf=>?_⟩,⟨Nat.le_refl _,fun _=>rfl⟩,fun id=>?_⟩
   · simp only at h
     have:C.G0.ow b' ≠ none:=by
       intro e;rw [if_neg (by rw [e];simp),e] at h;cases h
     obtain ⟨id',he⟩:=Option.ne_none_iff_exists'.1 this
     have:=hO b' id' he
     exact ⟨by rw [← hsz f];exact this.1,.inr this.2⟩
   · by_cases q:id = 3000
     · subst q;cases hf
     · exact ⟨if_neg q,if_neg q⟩
   · by_cases hid:id = 3000
     · subst hid
       refine .inr ⟨cap,f cs,?_,?_,?_,?_,q5,?_,?_⟩
       · simp only [if_true,List.length_map]
       · simp only [if_true];exact hthis f
       · simp only [if_true];rw [q3];rfl
       · rw [List.length_map];omega
       · rw [← hF,putC_size];exact q6
       · intro i ps hi
         rw [List.getElem?_map] at hi
         obtain ⟨x,hx,rfl⟩:=Option.map_eq_some_iff.1 hi
         refine ⟨rfl,fun j A hj=>?_⟩
         obtain rfl:j = 0:=by
           have h1:j < 1:=(List.getElem?_eq_some_iff.1 hj).1
           omega
         cases hj
         obtain ⟨hi',hx'⟩:=List.getElem?_eq_some_iff.1 hx
         have hzl:Z.length = (compB l).length:=by rw [← hcE,List.length_map]
         rw [Nat.mul_one,Nat.add_zero,← hF,put_get _ _ _ _ (by rw [q6];omega) (by simp;omega)]
         refine ⟨_,rfl,rfl,?_⟩
         show Value.string _ = Value.string x
         rw [getElem!_pos _ i (by simp;omega)]
         have e3:(Z ++ List.replicate (l.length - (compB l).length) []).toArray[i]'(by simp;omega) = toLB x:=by
           have hiz:i < Z.length:=by omega
           have e4:Z[i]'hiz = toLB x:=by
             have:(compB l).map toLB = Z:=hcE
             subst this
             rw [List.getElem_map,hx']
           rw [List.getElem_toArray,List.getElem_append_left hiz,e4]
         rw [e3]
     · rw [show lookB id [(3000,Blk.row 9 1 ((compB l).map strP))] = .none by simp [lookB,nbeq_false hid]];trivial
section
theorem span_Has (r:Rg) (s:ByteArray) (hs:s.size ≤ 1000000000):Fn Tryz.prog 99 [rgC r,sC s] (boR (rgHas r s)):=by
 have h1:=span_Right r
 obtain ⟨lo,hi,op⟩:=r
 have hR:=rgR_iff ⟨lo,hi,op⟩
 have hH:rgHas ⟨lo,hi,op⟩ s = (rgR ⟨lo,hi,op⟩ && (decide (lo ≤ s) && (op || decide (s < hi)))):=rfl
 generalize rgHas ⟨lo,hi,op⟩ s = b at *
 generalize rgR ⟨lo,hi,op⟩ = q at *
 subst hH
 show Fn Tryz.prog _ [.per (aggP [rawP (.string lo),rawP (.string hi),rawP (.bool op)]),sC s] (boR _)
 cases q with
 | false=>
   refine fi Tryz.func99 Tryz.ntmps99 ?_
   (have kc1:=h1;refine w0 ?_;(repeat' first|refine W2.mk ?_ ?_|refine W1.mk fun hc=>?_);all_goals clear kc1)
   refine rt1 ?_
   exact rv_bool rfl rfl
 | true=>
   have hlo:=(hR.1 rfl).1
   simp only at hlo
   clear hR
   have h2:=key_Cmp lo s (by omega)
   have h3:=key_Cmp s hi (by omega)
   by_cases q1:cmpB lo s ≤ 0
   · rw [decide_eq_true (show lo ≤ s from q1)]
     cases op with
     | true=>
       refine fi Tryz.func99 Tryz.ntmps99 ?_
       (have kc1:=h1;have kf1:=h2;have kf2:=h3;refine w0 ?_;(repeat' first|refine W2.mk ?_ ?_|refine W1.mk fun hc=>?_);all_goals clear kf2 kf1 kc1)
       refine rt1 ?_
       exact rv_bool rfl rfl
     | false=>
       refine fi Tryz.func99 Tryz.ntmps99 ?_
       (have kc1:=h1;have kf1:=h2;have kf2:=h3;refine w0 ?_;(repeat' first|refine W2.mk ?_ ?_|refine W1.mk fun hc=>?_);all_goals clear kf2 kf1 kc1)
       refine rt1 ?_
       exact rv_bool rfl rfl
   · rw [decide_eq_false (show ¬ lo ≤ s from q1)]
     refine fi Tryz.func99 Tryz.ntmps99 ?_
     (have kc1:=h1;have kc2:=h2;refine w0 ?_;(repeat' first|refine W2.mk ?_ ?_|refine W1.mk fun hc=>?_);all_goals clear kc2 kc1)
     refine rt1 ?_
     exact rv_bool rfl rfl
theorem rspan_Has (r:Rg) (s:ByteArray) (hs:s.size ≤ 1000000000):Fn Tryz.prog 86 [rgC r,sC s] (boR (rgHas r s)):=by
 have h1:=rspan_Right r
 obtain ⟨lo,hi,op⟩:=r
 have hR:=rgR_iff ⟨lo,hi,op⟩
 have hH:rgHas ⟨lo,hi,op⟩ s = (rgR ⟨lo,hi,op⟩ && (decide (lo ≤ s) && (op || decide (s < hi)))):=rfl
 generalize rgHas ⟨lo,hi,op⟩ s = b at *
 generalize rgR ⟨lo,hi,op⟩ = q at *
 subst hH
 show Fn Tryz.prog _ [.per (aggP [rawP (.string lo),rawP (.string hi),rawP (.bool op)]),sC s] (boR _)
 cases q with
 | false=>
   refine fi Tryz.func86 Tryz.ntmps86 ?_
   (have kc1:=h1;refine w0 ?_;(repeat' first|refine W2.mk ?_ ?_|refine W1.mk fun hc=>?_);all_goals clear kc1)
   refine rt1 ?_
   exact rv_bool rfl rfl
 | true=>
   have hlo:=(hR.1 rfl).1
   simp only at hlo
   clear hR
   have h2:=ref_Less s lo (by omega)
   have h3:=ref_Less s hi (by omega)
   by_cases q1:cmpB s lo < 0
   · rw [decide_eq_false (show ¬ lo ≤ s by have:=(o_lt s lo).1 q1;grind)]
     rw [decide_eq_true q1] at h2
     refine fi Tryz.func86 Tryz.ntmps86 ?_
     (have kc1:=h1;have kc2:=h2;refine w0 ?_;(repeat' first|refine W2.mk ?_ ?_|refine W1.mk fun hc=>?_);all_goals clear kc2 kc1)
     refine rt1 ?_
     exact rv_bool rfl rfl
   · rw [decide_eq_true (show lo ≤ s by rw [o_lt] at q1;grind)]
     rw [decide_eq_false q1] at h2
     cases op with
     | true=>
       refine fi Tryz.func86 Tryz.ntmps86 ?_
       (have kc1:=h1;have kc2:=h2;refine w0 ?_;(repeat' first|refine W2.mk ?_ ?_|refine W1.mk fun hc=>?_);all_goals clear kc2 kc1)
       refine rt1 ?_
       exact rv_bool rfl rfl
     | false=>
       refine fi Tryz.func86 Tryz.ntmps86 ?_
       (have kc1:=h1;have kf1:=h2;have kf2:=h3;refine w0 ?_;(repeat' first|refine W2.mk ?_ ?_|refine W1.mk fun hc=>?_);all_goals clear kf2 kf1 kc1)
       refine rt1 ?_
       exact rv_bool rfl rfl
theorem rrgs_Has (l:List Rg) (s:ByteArray) (hl:l.length ≤ 1000000000) (hs:s.size ≤ 1000000000):Fn Tryz.prog 43 [rgsB l,sC s] (boR (anyR l s)):=by
 generalize hb:anyR l s = b
 refine fi Tryz.func43 Tryz.ntmps43 ?_
 (refine w0 ?_;(repeat' first|refine W2.mk ?_ ?_|refine W1.mk fun hc=>?_))
 refine AW_loopP (X:=Nat) (fun z=>z ≤ l.length ∧ anyR (l.drop z) s = b)
   (fun z=>mkSt [(0,rgsB l),(1,sC s),(5,iC .i64 (z:Nat))] []) (fun z=>l.length - z) 0 ⟨Nat.zero_le _,by rw [List.drop_zero];exact hb⟩ ?_ ?_
 · exact le_auto
 · rintro z ⟨h1,h2⟩
   by_cases hz:z < l.length
   · have h3:=rspan_Has l[z] s hs
     rw [List.drop_eq_getElem_cons hz,anyR,List.any_cons] at h2
     cases hr:rgHas l[z] s with
     | true=>
       rw [hr] at h3 h2
       rw [Bool.true_or] at h2
       subst h2
       clear hb
       (have kc1:=h3;refine w0 ?_;(repeat' first|refine W2.mk ?_ ?_|refine W1.mk fun hc=>?_);all_goals clear kc1)
       refine rt1 ?_
       exact rv_bool rfl rfl
     | false=>
       rw [hr] at h3 h2
       rw [Bool.false_or] at h2
       clear hb
       (have kc1:=h3;refine w0 ?_;(repeat' first|refine W2.mk ?_ ?_|refine W1.mk fun hc=>?_);all_goals clear kc1)
       refine ⟨z + 1,⟨by omega,h2⟩,by omega,?_⟩
       exact le_auto
   · obtain rfl:z = l.length:=by omega
     rw [List.drop_length] at h2
     simp only [anyR,List.any_nil] at h2
     subst h2
     clear hb
     (refine w0 ?_;(repeat' first|refine W2.mk ?_ ?_|refine W1.mk fun hc=>?_))
     refine rt1 ?_
     exact rv_bool rfl rfl
theorem span_Ends (x y:Rg) (hx:rgR x = true) (hy:rgR y = true):Fn Tryz.prog 145 [rgC x,rgC y] (inR (endR x y)):=by
 have h1:=span_Right x
 have h2:=span_Right y
 have hR:=(rgR_iff x).1 hx
 rw [hx] at h1
 rw [hy] at h2
 clear hx hy
 obtain ⟨lo,hi,op⟩:=x
 obtain ⟨lo',hi',op'⟩:=y
 have hhi:=hR.2.1
 simp only at hhi
 clear hR
 have h3:=key_Cmp hi hi' (by omega)
 have hE:endR ⟨lo,hi,op⟩ ⟨lo',hi',op'⟩ = (if op && op' then 0 else if op then 1 else if op' then -1 else cmpB hi hi'):=rfl
 rw [hE]
 show Fn Tryz.prog _ [.per (aggP [rawP (.string lo),rawP (.string hi),rawP (.bool op)]),.per (aggP [rawP (.string lo'),rawP (.string hi'),rawP (.bool op')])] (inR _)
 cases op <;> cases op'
 all_goals
   refine fi Tryz.func145 Tryz.ntmps145 ?_
   (have kf1:=h1;have kf2:=h2;have kc1:=h3;refine w0 ?_;(repeat' first|refine W2.mk ?_ ?_|refine W1.mk fun hc=>?_);all_goals clear kc1 kf2 kf1)
   refine rt1 ?_
   exact rv_int rfl rfl
end
def cloP (f:FuncId) (As:List PV):PV:=⟨fun N w v=>∃ xs:List Value,v = .func (.func f) #[] xs.toArray ∧ xs.length = As.length ∧ ∀ (j:Nat) (x:Value) (A:PV),xs[j]? = some x → As[j]? = some A → A.p N w x,
 fun h1 h2 h3 ⟨xs,e,l,h⟩=>⟨xs,e,l,fun j x A a b=>A.mono h1 h2 h3 (h j x A a b)⟩⟩
section
variable {P:Program} {n t:Nat} {ops:Array Oper} {o:Oper} {F:List Nat} {S:St}
theorem op_mkP1 {f:FuncId} {x:Operand} {A:PV} (hp:Pl n o t) (ho:o.op = .makeFunc (.func f) #[] #[x]) (hx:S.opd x = .per A):OpOk n P ops o (opdN x) (.per (cloP f [A])) [] S:=
 op_val hp fun C T g a w hA hR=>⟨.func (.func f) #[] #[a.eval x],by simp [execOp,ho,Instr.makeFunc],[a.eval x],rfl,rfl,fun j v B h1 h2=>by
   have h:=opd_rep (x:=x) hA (fun k h=>by simp [h]) hR
   rw [hx] at h
   match j with
   | 0=>cases h1;cases h2;exact h
   | j + 1=>cases h1⟩
theorem op_mkP2 {f:FuncId} {x y:Operand} {A B:PV} (hp:Pl n o t) (ho:o.op = .makeFunc (.func f) #[] #[x,y]) (hx:S.opd x = .per A) (hy:S.opd y = .per B):OpOk n P ops o (opdN x ++ opdN y) (.per (cloP f [A,B])) [] S:=
 op_val hp fun C T g a w hA hR=>⟨.func (.func f) #[] #[a.eval x,a.eval y],by simp [execOp,ho,Instr.makeFunc],[a.eval x,a.eval y],rfl,rfl,fun j v B' h1 h2=>by
   have h:=opd_rep (x:=x) hA (fun k h=>by simp [h]) hR
   have h':=opd_rep (x:=y) hA (fun k h=>by simp [h]) hR
   rw [hx] at h
   rw [hy] at h'
   match j with
   | 0=>cases h1;cases h2;exact h
   | 1=>cases h1;cases h2;exact h'
   | j + 2=>cases h1⟩
theorem head_cloP {x0:Operand} {f:FuncId} {As:List PV} (hx:S.opd x0 = .per (cloP f As)) (hF:∀ k ∈ opdN x0,k ∈ F):HeadOk F S x0 f (As.map .per):=fun n C T g a w hA hR=>by
 have h:=opd_rep (x:=x0) hA hF hR
 rw [hx] at h
 obtain ⟨xs,e,l,h⟩:=h
 refine ⟨xs,e,by rw [l,List.length_map],fun j v c h1 h2=>?_⟩
 rw [List.getElem?_map] at h2
 obtain ⟨A,hA',rfl⟩:=Option.map_eq_some_iff.1 h2
 exact h j v A h1 hA'
theorem mp_pers {bo:Bool} {ρ:Nat → Option Nat} {old new:Nat → Nat} (As:List PV):(As.map Cnt.per).map (Cnt.mp bo ρ old new) = As.map Cnt.per:=by
 rw [List.map_map];exact List.map_congr_left fun _ _=>rfl
/-- a call of a function value that has caught things -/
theorem c_CP {f:FuncId} {x0:Operand} {xs:List Operand} (Bs:List Cnt) {As:List PV} {full:List Cnt} {r:Cnt} (hf:FnM P f full [] r []) (hfl:Bs ++ As.map Cnt.per = full:=by rfl) (hp:PlM n o:=by exact ⟨rfl,rfl⟩) (ho:isCallV o x0 xs:=by exact ⟨_,rfl⟩) (hx:S.opd x0 = .per (cloP f As):=by rfl)
   (hg:GMl S [] xs Bs:=by first|((repeat (first|exact GMl.nil|(refine GMl.cons ?_ ?_;focus (first|exact gq_per rfl|exact gq_lst rfl|exact gq_row rfl rfl rfl rfl|exact gq_bor rfl|exact gq_nil rfl|exact gq_nil' rfl|exact gq_ref rfl rfl))));done)|fail):OpOk n P ops o (opdN x0 ++ (callN S xs ++ sgN [])) (r.mp false (lk1 []) z0 (nvM S.ver [])) (updM S [] [] []) S:=
 op_callM (cs:=As.map .per) [] hp ho (head_cloP hx (fun k h=>by simp [h])) (by rw [mp_pers,hfl];exact hf) rfl (fun p h=>by cases h) (hg.gives (fun _ h=>by simp at h ⊢;exact .inr (.inl h)) (fun _ h=>by simp [h])) .nil
end
/-- not too much in all -/
def pcsMid (k:List Pc):Prop:=k.length ≤ 1000000 ∧ (k.flatMap Pc.set).length ≤ 1000000 ∧ ((k.flatMap Pc.set).flatMap Kn.runs).length ≤ 1000000
def hasF (s:ByteArray) (p:Pc):List Kn:=if rgHas p.rg s then p.set else []
theorem flat_sub {α β:Type} {f g:α → List β} (h:∀ x,(f x).Sublist (g x)):∀ l:List α,(l.flatMap f).Sublist (l.flatMap g):=by
 intro l
 induction l with
 | nil=>exact .slnil
 | cons x l ih=>rw [List.flatMap_cons,List.flatMap_cons];exact (h x).append ih
theorem flat_sub_len {α β:Type} (f:α → List β) {a b:List α} (h:a.Sublist b):(a.flatMap f).length ≤ (b.flatMap f).length:=by
 induction h with
 | slnil=>exact Nat.le_refl _
 | cons x _ ih=>rw [List.flatMap_cons,List.length_append];omega
 | cons_cons x _ ih=>rw [List.flatMap_cons,List.flatMap_cons,List.length_append,List.length_append];omega
theorem hasF_sub (s:ByteArray) (p:Pc):(hasF s p).Sublist p.set:=by
 unfold hasF;split
 · exact List.Sublist.refl _
 · exact List.nil_sublist _
theorem pcsMid.has {k:List Pc} (h:pcsMid k) (s:ByteArray):knsMid (k.flatMap (hasF s)):=by
 have h1:=flat_sub (hasF_sub s) k
 have h2:=h1.length_le
 have h3:=flat_sub_len Kn.runs h1
 exact ⟨by have:=h.2.1;omega,by have:=h.2.2;omega⟩
theorem flat_take {α β:Type} (f:α → List β) (l:List α) (z:Nat):(l.take z).flatMap f = (l.take z).flatMap f ∧ ((l.take z).flatMap f).length ≤ (l.flatMap f).length:=⟨rfl,flat_sub_len f (List.take_sublist _ _)⟩
theorem flat_snoc {α β:Type} (f:α → List β) (l:List α) (z:Nat) (h:z < l.length):(l.take (z + 1)).flatMap f = (l.take z).flatMap f ++ f l[z]:=by
 rw [List.take_succ_eq_append_getElem h,List.flatMap_append,List.flatMap_cons,List.flatMap_nil,List.append_nil]
theorem mem_flat_len2 {α β:Type} (f:α → List β) {l:List α} {x:α} (h:x ∈ l):(f x).length ≤ (l.flatMap f).length:=by
 induction l with
 | nil=>cases h
 | cons y l ih=>
   rw [List.flatMap_cons,List.length_append]
   rcases List.mem_cons.1 h with rfl|h
   · omega
   · have:=ih h;omega
section
theorem kn_At (k:List Pc) (s:ByteArray) (hk:pcsMid k) (hs:s.size ≤ 1000000000):Fn Tryz.prog 95 [pcsB k,sC s] (ownKn (atK k s)):=by
 have hk1:=hk.1
 have hO:=vset_Of (k.flatMap (hasF s)) (hk.has s).tot
 rw [show vsOf ofR (k.flatMap (hasF s)) = atK k s from rfl] at hO
 generalize atK k s = R at *
 refine fi Tryz.func95 Tryz.ntmps95 ?_
 (refine w0 ?_;(repeat' first|refine W2.mk ?_ ?_|refine W1.mk fun hc=>?_))
 refine AW_le (Le_nil 5 700 130 2 rfl rfl) ?_
 refine AW_loopP (X:=Nat) (fun z=>z ≤ k.length)
   (fun z=>mkSt [(1,sC s),(5,.row 700 0),(8,pcsB k),(9,iC .i64 (k.length:Nat)),(10,iC .i64 ((z:Nat):Int))] [(700,.row 130 2 (((k.take z).flatMap (hasF s)).map knP))]) (fun z=>k.length - z) 0 (Nat.zero_le _) ?_ ?_
 · exact le_auto
 · intro z hz
   by_cases hlt:z < k.length
   · have hsn:=flat_snoc (hasF s) k z hlt
     have h1:=(flat_take (hasF s) k z).2
     have h2:=(hk.has s).1
     have h3:=mem_flat_len2 Pc.set (List.getElem_mem hlt)
     have h4:=hk.2.1
     have c1:=span_Has k[z].rg s hs
     generalize (k.take z).flatMap (hasF s) = A at *
     unfold hasF at hsn
     clear hk
     cases c:rgHas k[z].rg s with
     | true=>
       rw [c] at c1 hsn
       rw [if_pos rfl] at hsn
       (have kc1:=c1;refine w0 ?_;(repeat' first|refine W2.mk ?_ ?_|refine W1.mk fun hc=>?_);all_goals clear kc1)
       refine ⟨z + 1,hlt,by omega,Le_trans (Le_mv 700 701) (Le_trans (Le_mv 701 700) ?_)⟩
       rw [show (k.take (z + 1)).flatMap (hasF s) = _ from hsn]
       exact le_auto
     | false=>
       rw [c] at c1 hsn
       rw [if_neg (by simp),List.append_nil] at hsn
       (have kc1:=c1;refine w0 ?_;(repeat' first|refine W2.mk ?_ ?_|refine W1.mk fun hc=>?_);all_goals clear kc1)
       refine ⟨z + 1,hlt,by omega,?_⟩
       rw [show (k.take (z + 1)).flatMap (hasF s) = _ from hsn]
       exact le_auto
   · rw [List.take_of_length_le (show k.length ≤ z by omega)]
     clear hk
     generalize k.flatMap (hasF s) = A at *
     (have kc1:=hO;refine w0 ?_;(repeat' first|refine W2.mk ?_ ?_|refine W1.mk fun hc=>?_);all_goals clear kc1)
     refine rt1 ?_
     exact rv_own rfl rfl rfl
/-- all edges as they come -/
def rawE (p:Pc):List ByteArray:=if rgR p.rg then (if p.rg.op then [p.rg.lo] else [p.rg.lo,p.rg.hi]) else []
theorem rawE_one (p:Pc) (m:ByteArray):m ∈ rawE p ↔ isEdge p.rg m:=by
 unfold rawE isEdge
 by_cases c:rgR p.rg = true
 · rw [if_pos c]
   cases o:p.rg.op with
   | true=>simp [c]
   | false=>simp [c]
 · rw [if_neg c]
   simp [c]
theorem rawE_mem (k:List Pc) (m:ByteArray):m ∈ k.flatMap rawE ↔ ∃ r ∈ rgsOf k,isEdge r m:=by
 unfold rgsOf
 rw [List.mem_flatMap]
 constructor
 · rintro ⟨p,hp,h⟩
   exact ⟨p.rg,List.mem_map_of_mem hp,(rawE_one p m).1 h⟩
 · rintro ⟨r,hr,h⟩
   obtain ⟨p,hp,rfl⟩:=List.mem_map.1 hr
   exact ⟨p,hp,(rawE_one p m).2 h⟩
theorem rawE_len (p:Pc):(rawE p).length ≤ 2:=by unfold rawE;split;split <;> simp;simp
theorem rawE_flen:∀ k:List Pc,(k.flatMap rawE).length ≤ 2 * k.length:=by
 intro k
 induction k with
 | nil=>simp
 | cons p k ih=>rw [List.flatMap_cons,List.length_append,List.length_cons];have:=rawE_len p;omega
theorem rawE_sz {k:List Pc} {m:ByteArray} (h:m ∈ emB :: k.flatMap rawE):m.size ≤ 1000000000000:=by
 rcases List.mem_cons.1 h with rfl|h
 · decide
 · obtain ⟨r,_,c,q⟩:=(rawE_mem k m).1 h
   have:=(rgR_iff r).1 c
   rcases q with q|⟨_,q⟩ <;> rw [q] <;> omega
theorem rawE_sort (k:List Pc):compB (sortT (emB :: k.flatMap rawE)) = edgK k:=
 sortC_eq (fun _ h=>rawE_sz h) (edgK_up k) (fun s=>by
   unfold edgK
   rw [edgT_mem,List.mem_cons (a:=s) (b:=emB) (l:=k.flatMap rawE),rawE_mem,List.mem_singleton])
abbrev pcsC (l:List Pc):Cnt:=.per (pcsP l)
abbrev txW (l:List ByteArray):Blk:=.row 9 1 (l.map strP)
theorem kn_edges (ls:List (List Pc)) (hl:ls.length ≤ 1000) (hk:ls.flatten.length ≤ 1000000):Fn Tryz.prog 93 [.bor 1 (ls.map fun k=>[pcsP k])] (.own 9 1 ((edgK ls.flatten).map strP)):=by
 have hsort:=rawE_sort ls.flatten
 have hlen:=rawE_flen ls.flatten
 have s1:=sort_str (emB :: ls.flatten.flatMap rawE) (fun s h=>rawE_sz h) (by rw [List.length_cons];omega)
 have s2:=comp_str (sortT (emB :: ls.flatten.flatMap rawE)) (by
   have:=(sortT_spec (l:=emB :: ls.flatten.flatMap rawE) (fun s h=>rawE_sz h)).1.length_eq
   rw [this,List.length_cons];omega)
 rw [hsort] at s2
 generalize edgK ls.flatten = R at *
 generalize sortT (emB :: ls.flatten.flatMap rawE) = Q at *
 clear hsort
 refine fi Tryz.func93 Tryz.ntmps93 ?_
 (repeat' (first|refine AW_seq ?_|refine AW_block ?_|refine AW_skip ?_|refine AW_exit ?_|refine AW_ret ?_|refine AW_region ?_|refine AW_draw mixed0 ?_|refine AL_nil ?_|refine AD_nil (by kernel_rfl) ?_|(refine AW_cl rfl rfl ⟨fun hc=>?_,fun hc=>?_⟩ <;> (repeat rw [List.length_map] at hc) <;> (try exact absd hc))|((first|apply AL_t rfl|apply AL_0 rfl|apply AD_t rfl|apply AD_0 rfl);focus (first|((apply u_k 15;(focus rfl);solve|(apply u_bslice_row <;> first|exact ⟨rfl,rfl,rfl⟩|rfl|infer_instance|(repeat (first|exact PartsL.nil|(apply PartsL.cons;(focus (first|exact part_raw rfl rfl rfl|exact part_agg rfl|exact part_lst rfl))))))))|(apply u_g;(focus rfl);apply op_gyes rfl rfl rfl rfl rfl;((apply u_k 15;(focus rfl);solve|(apply u_bslice_row <;> first|exact ⟨rfl,rfl,rfl⟩|rfl|infer_instance|(repeat (first|exact PartsL.nil|(apply PartsL.cons;(focus (first|exact part_raw rfl rfl rfl|exact part_agg rfl|exact part_lst rfl)))))))))|exact z_auto|fail))|refine thenA_n ?_|refine thenA_r ?_|refine thenA_e ?_|refine inB_n ?_|refine inB_r ?_|refine inB_hit ?_|refine inB_miss rfl ?_|((first|refine AL_cl rfl rfl rfl ⟨fun hc=>?_,fun hc=>?_⟩|refine AD_cl rfl rfl rfl ⟨fun hc=>?_,fun hc=>?_⟩) <;> (fail_if_success (have q:(true = true):=hc)) <;> (fail_if_success (have q:(false = false):=hc)) <;> (repeat rw [List.length_map] at hc) <;> (try exact absd hc))|refine AW_cond_nil rfl rfl (fun hc=>?_) ?_))
 refine AW_le (Le_mv 8 700) ?_
 refine AW_loopP (X:=Nat) (fun z=>z ≤ ls.length)
   (fun z=>mkSt [(3,.row 700 0),(9,.bor 1 (ls.map fun k=>[pcsP k])),(10,iC .i64 (ls.length:Nat)),(11,iC .i64 ((z:Nat):Int))] [(700,txW (emB :: (ls.take z).flatten.flatMap rawE))]) (fun z=>ls.length - z) 0 (Nat.zero_le _) ?_ ?_
 · exact le_auto
 · intro z hz
   by_cases hlt:z < ls.length
   · have htk:(ls.take (z + 1)).flatten = (ls.take z).flatten ++ ls[z]:=by rw [List.take_succ_eq_append_getElem hlt,List.flatten_append];simp
     have hsub:(ls.take (z + 1)).flatten.length ≤ ls.flatten.length:=by
       have:ls.flatten = (ls.take (z + 1)).flatten ++ (ls.drop (z + 1)).flatten:=by rw [← List.flatten_append,List.take_append_drop]
       rw [this,List.length_append];omega
     have hl2:=congrArg List.length htk
     rw [List.length_append] at hl2
     have hraw:(ls.take (z + 1)).flatten.flatMap rawE = (ls.take z).flatten.flatMap rawE ++ ls[z].flatMap rawE:=by rw [htk,List.flatMap_append]
     have hA:=rawE_flen (ls.take z).flatten
     generalize (ls.take z).flatten.flatMap rawE = A at *
     clear s1 s2 htk
     (refine w0 ?_;(repeat' first|refine W2.mk ?_ ?_|refine W1.mk fun hc=>?_))
     refine AW_loopP (X:=Nat) (fun y=>y ≤ ls[z].length)
       (fun y=>mkSt [(3,.row 700 0),(9,.bor 1 (ls.map fun k=>[pcsP k])),(10,iC .i64 (ls.length:Nat)),(11,iC .i64 ((z:Nat):Int)),(15,pcsC ls[z]),(16,iC .i64 (ls[z].length:Nat)),(17,iC .i64 ((y:Nat):Int))] [(700,txW (emB :: (A ++ (ls[z].take y).flatMap rawE)))]) (fun y=>ls[z].length - y) 0 (Nat.zero_le _) ?_ ?_
     · (refine Le_mk ?_ ?_;(focus ((repeat (first|exact AllG.nil|(refine AllG.cons ?_ ?_;rotate_left)));(all_goals try (first|rfl|(refine eqI ?_;first|omega|(simp;done)|(simp;omega))|(refine eqBo ?_;first|(simp;done)|(simp [*];done))))));(focus ((repeat (first|exact AllB.nil|(refine AllB.cons ?_ ?_;rotate_left)));(all_goals try (first|rfl|(refine eqRw ?_;(rw [List.map_append] <;> rfl);done)|(refine eqMix ?_;(rw [List.map_append] <;> rfl);done))))))
       rw [List.take_zero,List.flatMap_nil,List.append_nil]
       rfl
     · intro y hy
       by_cases hly:y < ls[z].length
       · have hsn:=flat_snoc rawE ls[z] y hly
         have hB:=(flat_take rawE ls[z] y).2
         have hB2:=rawE_flen ls[z]
         have c1:=span_Right ls[z][y].rg
         generalize (ls[z].take y).flatMap rawE = B at *
         unfold rawE at hsn
         cases c:rgR ls[z][y].rg with
         | false=>
           rw [c] at c1 hsn
           rw [if_neg (by simp),List.append_nil] at hsn
           (have kc1:=c1;refine w0 ?_;(repeat' first|refine W2.mk ?_ ?_|refine W1.mk fun hc=>?_);all_goals clear kc1)
           refine ⟨y + 1,hly,by omega,?_⟩
           rw [show (ls[z].take (y + 1)).flatMap rawE = _ from hsn]
           exact le_auto
         | true=>
           rw [c] at c1 hsn
           rw [if_pos rfl] at hsn
           cases o:ls[z][y].rg.op with
           | true=>
             rw [o,if_pos rfl] at hsn
             (have kc1:=c1;refine w0 ?_;(repeat' first|refine W2.mk ?_ ?_|refine W1.mk fun hc=>?_);all_goals clear kc1)
             all_goals first
               | (exfalso;simp [o] at hc;done)
               | (refine ⟨y + 1,hly,by omega,Le_trans (Le_mv 700 701) (Le_trans (Le_mv 701 700) ?_)⟩
                  rw [show (ls[z].take (y + 1)).flatMap rawE = _ from hsn]
                  (refine Le_mk ?_ ?_;(focus ((repeat (first|exact AllG.nil|(refine AllG.cons ?_ ?_;rotate_left)));(all_goals try (first|rfl|(refine eqI ?_;first|omega|(simp;done)|(simp;omega))|(refine eqBo ?_;first|(simp;done)|(simp [*];done))))));(focus ((repeat (first|exact AllB.nil|(refine AllB.cons ?_ ?_;rotate_left)));(all_goals try (first|rfl|(refine eqRw ?_;(rw [List.map_append] <;> rfl);done)|(refine eqMix ?_;(rw [List.map_append] <;> rfl);done))))))
                  show Blk.row _ _ _ = Blk.row _ _ _
                  simp
                  try rfl)
           | false=>
             rw [o,if_neg (by simp)] at hsn
             (have kc1:=c1;refine w0 ?_;(repeat' first|refine W2.mk ?_ ?_|refine W1.mk fun hc=>?_);all_goals clear kc1)
             all_goals first
               | (exfalso;simp [o] at hc;done)
               | (refine ⟨y + 1,hly,by omega,Le_trans (Le_mv 700 701) (Le_trans (Le_mv 701 700) ?_)⟩
                  rw [show (ls[z].take (y + 1)).flatMap rawE = _ from hsn]
                  (refine Le_mk ?_ ?_;(focus ((repeat (first|exact AllG.nil|(refine AllG.cons ?_ ?_;rotate_left)));(all_goals try (first|rfl|(refine eqI ?_;first|omega|(simp;done)|(simp;omega))|(refine eqBo ?_;first|(simp;done)|(simp [*];done))))));(focus ((repeat (first|exact AllB.nil|(refine AllB.cons ?_ ?_;rotate_left)));(all_goals try (first|rfl|(refine eqRw ?_;(rw [List.map_append] <;> rfl);done)|(refine eqMix ?_;(rw [List.map_append] <;> rfl);done))))))
                  show Blk.row _ _ _ = Blk.row _ _ _
                  simp
                  try rfl)
       · rw [List.take_of_length_le (show ls[z].length ≤ y by omega)]
         rw [← hraw]
         (refine w0 ?_;(repeat' first|refine W2.mk ?_ ?_|refine W1.mk fun hc=>?_))
         refine ⟨z + 1,hlt,by omega,?_⟩
         exact le_auto
   · rw [List.take_of_length_le (show ls.length ≤ z by omega)]
     (have km1:=(show FnMs [(1000,700)] _ _ _ _ _ _ from s1);have km2:=(show FnMs [(2000,700),(3000,800)] _ _ _ _ _ _ from s2);refine w0 ?_;(repeat' first|refine W2.mk ?_ ?_|refine W1.mk fun hc=>?_);all_goals clear km2 km1)
     refine rt1 ?_
     exact rv_own rfl rfl rfl
end
end Go.Proofs.YtembiemaiacdfaaGreat
