/- Texts joined: SwP SwW SrtR RgW. -/
import Derived.Test.YtembiemaiacdfaaGreatJ21
import Derived.Test.YtembiemaiacdfaaGreatJ23
import Derived.Test.YtembiemaiacdfaaGreatJ05
import Derived.Test.YtembiemaiacdfaaGreatJ16
import Derived.Test.YtembiemaiacdfaaGreatJ22
import Derived.Test.YtembiemaiacdfaaGreatJ17
set_option maxRecDepth 10000
set_option maxHeartbeats 8000000
namespace Go.Proofs.YtembiemaiacdfaaGreat
open Go.RowKit
/-! ### what knowledge has -/
theorem hasKb_nil (r c:Int):hasKb [] r c = false:=by unfold hasKb tabAt hasRb;simp
theorem hasPb_get:∀ {k:List Pc},pcsOk k → ∀ (s:ByteArray) (r c:Int),hasPb k s r c = hasKb (getK k s) r c:=by
 intro k
 induction k with
 | nil=>intro _ s r c;rw [getK_nil,hasKb_nil];rfl
 | cons p l ih=>
   intro h s r c
   have hl:=((pcsOk_cons p l).1 h).2.2
   have e:hasPb (p :: l) s r c = ((rgHas p.rg s && hasKb p.set r c) || hasPb l s r c):=rfl
   rw [e,ih hl]
   by_cases q:rgHas p.rg s = true
   · have hn:getK l s = []:=by
       by_cases g:getK l s = []
       · exact g
       · obtain ⟨g1,g2⟩:=pcsOk_low h g
         have hr:=(rgHas_iff ((pcsOk_cons p l).1 h).1.1 s).1 q
         rcases hr.2 with q2|q2
         · rw [g1] at q2;cases q2
         · grind
     rw [q,getK_in q,hn,hasKb_nil];simp
   · rw [getK_out q,Bool.eq_false_iff.2 q];simp
theorem hasKb_iff {s:List Kn} {r c:Int}:hasKb s r c = true ↔ verR r c = true ∧ hasR (tabAt s (r - 1).toNat) c:=by
 unfold hasKb
 rw [Bool.and_eq_true,hasRb_iff]
theorem verR_rep {r c:Int} (h:verR r c = true):1 ≤ r ∧ r ≤ 16:=by
 unfold verR at h
 simp at h
 omega
theorem hasKb_or {a b:List Kn} {r c:Int}:hasKb (vsOf ofR (a ++ b)) r c = true ↔ hasKb a r c = true ∨ hasKb b r c = true:=by
 rw [hasKb_iff,hasKb_iff,hasKb_iff]
 constructor
 · rintro ⟨h1,h2⟩
   have:=verR_rep h1
   rw [tabAt_vsOf _ (by omega),ofR_has,tabAt_app,hasR_app] at h2
   rcases h2 with h2|h2
   · exact .inl ⟨h1,h2⟩
   · exact .inr ⟨h1,h2⟩
 · intro h
   have h1:verR r c = true:=by rcases h with h|h <;> exact h.1
   have:=verR_rep h1
   refine ⟨h1,?_⟩
   rw [tabAt_vsOf _ (by omega),ofR_has,tabAt_app,hasR_app]
   rcases h with h|h
   · exact .inl h.2
   · exact .inr h.2
theorem vsOf_nil:vsOf ofR [] = []:=vsOf_id knsOk_nil
/-- what is joined has what one of both has -/
theorem hasPb_join {a b:List Pc} (ha:pcsOk a) (hb:pcsOk b) (s:ByteArray) (r c:Int):hasPb (ofK (a ++ b)) s r c = (hasPb a s r c || hasPb b s r c):=by
 obtain ⟨h1,h2⟩:=ofK_ok (a ++ b)
 rw [Bool.eq_iff_iff,Bool.or_eq_true,hasPb_get h1,h2,atK_or,hasKb_or,hasPb_get ha,hasPb_get hb,atK_get ha,atK_get hb]
/-- what is left of knowledge on the texts of a list -/
theorem hasPb_rest {k:List Pc} (h:pcsOk k) (f:List Rg) (s:ByteArray) (r c:Int):hasPb (restK k f) s r c = (anyR f s && hasPb k s r c):=by
 obtain ⟨h1,h2⟩:=restK_ok k f
 rw [hasPb_get h1,h2]
 unfold resF
 by_cases q:anyR f s = true
 · rw [if_pos q,q,atK_get h,hasPb_get h];simp
 · rw [if_neg q,Bool.eq_false_iff.2 q,hasKb_nil];rfl
theorem restK_twice (k:List Pc) (f:List Rg):restK (restK k f) f = restK k f:=by
 obtain ⟨h1,h2⟩:=restK_ok k f
 obtain ⟨h3,h4⟩:=restK_ok (restK k f) f
 refine pcsOk_uniq h3 h1 fun s=>?_
 rw [h4,h2]
 unfold resF
 by_cases q:anyR f s = true
 · rw [if_pos q,if_pos q,atK_get h1,h2];unfold resF;rw [if_pos q]
 · rw [if_neg q,if_neg q]
theorem lessKn_in {a b:List Pc}:lessKn a (ofK (b ++ a)) = []:=by
 obtain ⟨h1,h2⟩:=lessKn_ok a (ofK (b ++ a))
 obtain ⟨h3,h4⟩:=ofK_ok (b ++ a)
 refine pcsOk_uniq h1 pcsOk_nil fun s=>?_
 rw [h2,getK_nil,atK_get h3,h4,atK_or]
 refine knsOk_uniq (vsLess_ok _ _) knsOk_nil fun r hr n=>?_
 rw [tabAt_vsLess _ _ hr,lessR_has,tabAt_vsOf _ hr,ofR_has,tabAt_app,hasR_app]
 constructor
 · rintro ⟨q1,q2⟩;exact absurd (.inr q1) q2
 · intro q
   unfold tabAt at q
   exact absurd q (hasR_nil n)
/-! ### what is taken -/
def inL (f:List Rg) (l:List It):List It:=l.filter fun x=>anyR f x.key
def takeS (s:Sta) (l:List It) (k:List Pc):Sta × Int:=
 if stR s = false then ({},41)
 else if listB l = false ∨ ¬ pcsOk k then ({},2)
 else if (inL s.flt l).any (fun x=>!hasPb s.know x.key x.rep x.cnt && !hasPb (restK k s.flt) x.key x.rep x.cnt) then ({},2)
 else if mostK (restK k s.flt) s.id > s.cnt then ({},2)
 else if apartB (mergeK [s.its ++ inL s.flt l]) = false then ({},2)
 else if (mergeK [s.its ++ inL s.flt l]).length > 4096 then ({},32)
 else (⟨s.id,s.flt,mergeK [s.its ++ inL s.flt l],ofK (s.know ++ restK k s.flt),s.cnt⟩,0)
/-- the items that aren't known -/
def unkL (l:List It) (f:List Rg) (k:List Pc):List It:=l.filter fun x=>anyR f x.key && !hasPb k x.key x.rep x.cnt
/-- the exchange -/
def syncS (s t:Sta):Sta × Int:=if stR s = false ∨ stR t = false then ({},41) else takeS t (unkL s.its t.flt t.know) (restK s.know t.flt)
theorem takeS_ok {s:Sta} {l:List It} {k:List Pc} (h:(takeS s l k).2 = 0) :
   stR s = true ∧ listB l = true ∧ pcsOk k ∧ (takeS s l k).1 = ⟨s.id,s.flt,mergeK [s.its ++ inL s.flt l],ofK (s.know ++ restK k s.flt),s.cnt⟩:=by
 unfold takeS at h ⊢
 by_cases c1:stR s = false
 · rw [if_pos c1] at h;simp at h
 rw [if_neg c1] at h ⊢
 by_cases c2:listB l = false ∨ ¬ pcsOk k
 · rw [if_pos c2] at h;simp at h
 rw [if_neg c2] at h ⊢
 by_cases c3:(inL s.flt l).any (fun x=>!hasPb s.know x.key x.rep x.cnt && !hasPb (restK k s.flt) x.key x.rep x.cnt) = true
 · rw [if_pos c3] at h;simp at h
 rw [if_neg c3] at h ⊢
 by_cases c4:mostK (restK k s.flt) s.id > s.cnt
 · rw [if_pos c4] at h;simp at h
 rw [if_neg c4] at h ⊢
 by_cases c5:apartB (mergeK [s.its ++ inL s.flt l]) = false
 · rw [if_pos c5] at h;simp at h
 rw [if_neg c5] at h ⊢
 by_cases c6:(mergeK [s.its ++ inL s.flt l]).length > 4096
 · rw [if_pos c6] at h;simp at h
 rw [if_neg c6]
 refine ⟨by simpa using c1,?_,?_,rfl⟩
 · by_cases q:listB l = false
   · exact absurd (.inl q) c2
   · simpa using q
 · by_cases q:pcsOk k
   · exact q
   · exact absurd (.inr q) c2
theorem stR_pcs {s:Sta} (h:stR s = true):pcsOk s.know ∧ ∀ x ∈ s.its,hasPb s.know x.key x.rep x.cnt = true:=by
 unfold stR at h
 simp only [Bool.and_eq_true,decide_eq_true_eq,List.all_eq_true] at h
 exact ⟨h.1.1.1.1.2,fun x hx=>(h.2 x hx).2⟩
/-- behind the exchange nothing is unknown, and nothing is learned -/
theorem sync_again {s t:Sta} (h:(syncS s t).2 = 0) :
   stR s = true ∧ stR t = true ∧ (syncS s t).1.flt = t.flt ∧ (syncS s t).1.know = ofK (t.know ++ restK s.know t.flt) ∧ (syncS s t).1.its = mergeK [t.its ++ inL t.flt (unkL s.its t.flt t.know)] ∧
   unkL s.its (syncS s t).1.flt (syncS s t).1.know = [] ∧ lessKn (restK s.know (syncS s t).1.flt) (syncS s t).1.know = []:=by
 unfold syncS at h ⊢
 by_cases c:stR s = false ∨ stR t = false
 · rw [if_pos c] at h;simp at h
 rw [if_neg c] at h ⊢
 obtain ⟨h1,h2,h3,h4⟩:=takeS_ok h
 have hs:stR s = true:=by
   by_cases q:stR s = true
   · exact q
   · exact absurd (.inl (by simpa using q)) c
 obtain ⟨p1,p2⟩:=stR_pcs hs
 obtain ⟨p3,_⟩:=stR_pcs h1
 obtain ⟨r1,_⟩:=restK_ok s.know t.flt
 rw [h4]
 dsimp only
 rw [restK_twice]
 refine ⟨hs,h1,rfl,rfl,rfl,?_,lessKn_in⟩
 unfold unkL
 rw [List.filter_eq_nil_iff]
 intro x hx
 rw [hasPb_join p3 r1,hasPb_rest p1,p2 x hx]
 cases anyR t.flt x.key <;> simp
/-! ### how big -/
theorem sum_tab:∀ (X:List Kn),((List.range 16).flatMap (tabAt X)).length ≤ (X.flatMap Kn.runs).length:=by
 intro X
 induction X with
 | nil=>simp [tabAt];decide
 | cons k X ih=>
   have e:∀ R:List Nat,R.Nodup → (R.flatMap (tabAt (k :: X))).length ≤ k.runs.length + (R.flatMap (tabAt X)).length:=by
     intro R
     induction R with
     | nil=>intro _;simp
     | cons r R ih2=>
       intro hn
       obtain ⟨hr,hn⟩:=List.nodup_cons.1 hn
       have e1:tabAt (k :: X) r = (if k.rep = (r:Int) + 1 then k.runs else []) ++ tabAt X r:=by unfold tabAt;rw [List.flatMap_cons]
       rw [List.flatMap_cons,List.flatMap_cons,List.length_append,List.length_append,e1,List.length_append]
       by_cases c:k.rep = (r:Int) + 1
       · rw [if_pos c]
         have e2:R.flatMap (tabAt (k :: X)) = R.flatMap (tabAt X):=by
           rw [List.flatMap_def,List.flatMap_def]
           congr 1
           refine List.map_congr_left fun q hq=>?_
           have : ¬ k.rep = (q : Int) + 1 := fun w => hr (by have : q = r := by omega
                                                             rw [← this];exact hq)
           unfold tabAt
           rw [List.flatMap_cons,if_neg this,List.nil_append]
         rw [e2];omega
       · rw [if_neg c]
         have:=ih2 hn
         simp only [List.length_nil];omega
   have:=e (List.range 16) List.nodup_range
   rw [List.flatMap_cons,List.length_append]
   omega
theorem setFrom_runs:∀ (T:List (List Rn)) (i:Nat),((setFrom ofR i T).flatMap Kn.runs).length ≤ T.flatten.length:=by
 intro T
 induction T with
 | nil=>intro i;simp [setFrom]
 | cons l T ih=>
   intro i
   have h1:=ih (i + 1)
   have h2:=ofR_len l
   rw [setFrom,List.flatMap_append,List.length_append,List.flatten_cons,List.length_append]
   split
   · simp only [List.flatMap_nil,List.length_nil];omega
   · simp only [List.flatMap_cons,List.flatMap_nil,List.append_nil];omega
theorem vsOf_runs (X:List Kn):((vsOf ofR X).flatMap Kn.runs).length ≤ (X.flatMap Kn.runs).length:=by
 have h1:=setFrom_runs (tabOf X) 0
 have h2:=sum_tab X
 unfold vsOf
 have e:(tabOf X).flatten = (List.range 16).flatMap (tabAt X):=by unfold tabOf;rw [List.flatMap_def]
 rw [e] at h1
 omega
/-- a new item of a key, laid into a list -/
def insP (x:It):List It → List It
 | []=>[x]
 | y :: l=>if cmpB y.key x.key < 0 then y :: insP x l else x :: (y :: l).filter fun z=>decide (z.key ≠ x.key)
theorem insP_mem:∀ (l:List It) (x z:It),z ∈ insP x l → z = x ∨ (z ∈ l ∧ z.key ≠ x.key):=by
 intro l
 induction l with
 | nil=>intro x z h;rw [insP] at h;simp at h;exact .inl h
 | cons y l ih=>
   intro x z h
   rw [insP] at h
   split at h
   · rename_i hc
     rcases List.mem_cons.1 h with rfl|h
     · exact .inr ⟨List.mem_cons_self,fun e=>by rw [e,(cmpB_eq _ _).2 rfl] at hc;omega⟩
     · rcases ih x z h with q|⟨q,r⟩
       · exact .inl q
       · exact .inr ⟨List.mem_cons_of_mem _ q,r⟩
   · rcases List.mem_cons.1 h with rfl|h
     · exact .inl rfl
     · obtain ⟨q,r⟩:=List.mem_filter.1 h
       exact .inr ⟨q,by simpa using r⟩
theorem insP_up:∀ (l:List It) (x:It),Up l → Up (insP x l):=by
 intro l
 induction l with
 | nil=>intro x _;rw [insP];exact List.pairwise_singleton _ _
 | cons y l ih=>
   intro x h
   have h':=List.pairwise_cons.1 h
   rw [insP]
   split
   · rename_i hc
     refine List.pairwise_cons.2 ⟨fun z hz=>?_,ih x h'.2⟩
     rcases insP_mem l x z hz with rfl|⟨q,_⟩
     · exact ltK_t.2 hc
     · exact h'.1 z q
   · rename_i hc
     refine List.pairwise_cons.2 ⟨fun z hz=>?_,List.Pairwise.filter _ h⟩
     obtain ⟨q,r⟩:=List.mem_filter.1 hz
     have r:z.key ≠ x.key:=by simpa using r
     have hyx:ltK y x = false:=by
       cases w:ltK y x with
       | false=>rfl
       | true=>exact absurd (ltK_t.1 w) hc
     rcases List.mem_cons.1 q with rfl|q
     · exact ltK_tri hyx r.symm
     · by_cases e:y.key = x.key
       · have:=h'.1 z q
         rw [ltK_t] at this ⊢
         rw [← e];exact this
       · exact ltK_wo.tr _ _ _ (ltK_tri hyx (fun w=>e w.symm)) (h'.1 z q)
theorem look_skip {k:ByteArray} {x:It} {l:List It} (hk:k ≠ x.key):lookK k (l.filter fun z=>decide (z.key ≠ x.key)) = lookK k l:=by
 unfold lookK
 congr 1
 rw [List.filter_filter]
 refine List.filter_congr fun z _=>?_
 by_cases e:z.key = k
 · have:z.key ≠ x.key:=fun w=>hk (e.symm.trans w)
   simp [e,hk]
 · have:(z.key == k) = false:=by rw [← Bool.not_eq_true,sbeq];exact e
   rw [this];rfl
theorem insP_look:∀ (l:List It) (x:It) (k:ByteArray),Up l → lookK k (insP x l) = if x.key = k then some x else lookK k l:=by
 intro l
 induction l with
 | nil=>
   intro x k _
   rw [insP,look_one]
   by_cases e:x.key = k
   · rw [if_pos e,if_pos (by rw [sbeq];exact e)]
   · rw [if_neg e,if_neg (by rw [sbeq];exact e)];rfl
 | cons y l ih=>
   intro x k h
   have h':=List.pairwise_cons.1 h
   rw [insP]
   split
   · rename_i hc
     have hne:y.key ≠ x.key:=fun e=>by rw [e,(cmpB_eq _ _).2 rfl] at hc;omega
     rw [show y :: insP x l = [y] ++ insP x l from rfl,look_app,ih x k h'.2,show y :: l = [y] ++ l from rfl,look_app]
     by_cases e:x.key = k
     · rw [if_pos e,if_pos e,look_one,if_neg (by rw [sbeq];exact fun w=>hne (w.trans e.symm))];rfl
     · rw [if_neg e,if_neg e]
   · rw [show x :: (y :: l).filter (fun z=>decide (z.key ≠ x.key)) = [x] ++ (y :: l).filter (fun z=>decide (z.key ≠ x.key)) from rfl,look_app,look_one]
     by_cases e:x.key = k
     · rw [if_pos e,if_pos (by rw [sbeq];exact e),look_none (fun z hz=>by
         obtain ⟨_,r⟩:=List.mem_filter.1 hz
         have r:z.key ≠ x.key:=by simpa using r
         exact fun w=>r (w.trans e.symm))];rfl
     · rw [if_neg e,if_neg (by rw [sbeq];exact e),look_skip (fun w=>e w.symm)];rfl
/-- what is merged with a newer item of its key has that one in its place -/
theorem ins_merge {x:It} {l:List It} (hx:itR x = true) (hl:l.all itR = true) (hu:Up l) (hr:∀ y ∈ l,y.key = x.key → y.rank < x.rank):mergeK [[x],l] = insP x l:=by
 refine (Up.uniq (insP_up l x hu) (mergeK_spec _).1 fun k=>?_).symm
 have hf:([[x],l]:List (List It)).flatten.filter itR = [x] ++ l:=by
   have:([[x],l]:List (List It)).flatten = [x] ++ l:=by simp
   rw [this,List.filter_eq_self]
   intro z hz
   rw [List.mem_append,List.mem_singleton] at hz
   rcases hz with rfl|hz
   · exact hx
   · exact List.all_eq_true.1 hl z hz
 rw [(mergeK_spec _).2.2,hf,look_app,insP_look l x k hu,look_one]
 by_cases e:x.key = k
 · rw [if_pos e,if_pos (by rw [sbeq];exact e)]
   have h1:=hu.filter k
   cases h2:lookK k l with
   | none=>rfl
   | some z=>
     rw [h2] at h1
     have hz:z ∈ l.filter (fun x=>x.key == k):=by rw [h1];simp
     obtain ⟨q,r⟩:=List.mem_filter.1 hz
     rw [sbeq] at r
     have:=hr z q (r.trans e.symm)
     have hn:¬ cmpI z x > 0:=by rw [cmpI_pos];omega
     simp only [comb]
     rw [if_neg hn]
 · rw [if_neg e,if_neg (by rw [sbeq];exact e)];rfl
/-! ### writes and deletes -/
def getS (l:List It) (k:ByteArray):Option It:=l.find? fun x=>decide (x.key = k)
def rankS (l:List It) (k:ByteArray):Int:=match getS l k with|some x=>x.rank|none=>0
/-- the knowledge of one version of a key -/
def oneK (k:ByteArray) (r c:Int):List Pc:=if keyR k && verR r c then [⟨⟨k,k ++ ⟨#[0]⟩,false⟩,[⟨r,[⟨c,c⟩]⟩]⟩] else []
def newI (s:Sta) (k:ByteArray) (prio:Int) (dead:Bool) (body:ByteArray):It:=⟨k,s.id,s.cnt + 1,rankS s.its k + 1,prio,dead,body⟩
def putS (s:Sta) (x:It):Sta:=⟨s.id,s.flt,insP x s.its,ofK (s.know ++ oneK x.key x.rep x.cnt),s.cnt + 1⟩
def writeS (s:Sta) (k:ByteArray) (prio:Int) (body:ByteArray):Sta × Int:=
 if stR s = false then ({},41)
 else if keyR k = false ∨ prio < 0 ∨ prio > 255 ∨ body.size > 64 then ({},2)
 else if anyR s.flt k = false then ({},30)
 else if s.cnt = 1099511627776 ∨ rankS s.its k = 1099511627776 then ({},33)
 else if getS s.its k = none ∧ s.its.length = 4096 then ({},32)
 else (putS s (newI s k prio false body),0)
def cmpLo (x y:Rg):Int:=cmpB x.lo y.lo
def loOk (x:Rg):Prop:=x.lo.size ≤ 1000000000
section
theorem of_1 (x y:Rg) (hx:loOk x) (hy:loOk y):FnM Tryz.prog 144 [rgC x,rgC y] [] (.per (rawP (.int .i64 (cmpLo x y)))) []:=by
 obtain ⟨xl,xh,xo⟩:=x
 obtain ⟨yl,yh,yo⟩:=y
 have h1:=key_Cmp xl yl (by have:xl.size ≤ 1000000000:=hx;omega)
 show FnM Tryz.prog _ [.per (aggP [rawP (.string xl),rawP (.string xh),rawP (.bool xo)]),.per (aggP [rawP (.string yl),rawP (.string yh),rawP (.bool yo)])] [] (.per (rawP (.int .i64 (cmpB xl yl)))) []
 refine fmi Tryz.func144 Tryz.ntmps144 ?_
 (have kc1:=h1;refine w0 ?_;(repeat' first|refine W2.mk ?_ ?_|refine W1.mk fun hc=>?_);all_goals clear kc1)
 (refine ⟨(by first|exact .inl rfl|exact .inr rfl),resM1 [] rfl rfl .nil ?_⟩)
 exact rvm_int rfl rfl
end
abbrev cmpCR:Cnt:=.per (rawP (.func (.func 144) #[] #[]))
abbrev itsWR (l:List Rg):Blk:=.row 82 3 (l.map rgP)
/-- no key is too long -/
def kOkR (l:List Rg):Prop:=∀ x ∈ l,loOk x
section
theorem sort_insR (A M Z:List Rg) (hk:kOkR M) (hl:(A ++ M ++ Z).length ≤ 1000000000):FnM Tryz.prog 215 [.row 1000 0,iC .i64 (A.length:Nat),iC .i64 ((A.length + M.length:Nat):Int),cmpCR] [(1000,itsWR (A ++ M ++ Z))] .any [(1000,itsWR (A ++ srtS ltR M ++ Z))]:=by
 generalize hR:A ++ srtS ltR M ++ Z = R
 generalize hb:A.length + M.length = b
 simp only [List.length_append] at hl
 refine fmi Tryz.func215 Tryz.ntmps215 ?_
 (refine w0 ?_;(repeat' first|refine W2.mk ?_ ?_|refine W1.mk fun hc=>?_))
 refine AW_loopP (X:=Nat × List Rg × List Rg) (fun x=>A.length < x.1 ∧ x.1 ≤ b + 1 ∧ A.length + x.2.1.length = min x.1 b ∧ A.length + x.2.1.length + x.2.2.length = b ∧ kOkR x.2.1 ∧ kOkR x.2.2 ∧ A ++ x.2.2.foldl (insT ltR) x.2.1 ++ Z = R)
   (fun x=>mkSt [(0,.row 1000 0),(1,iC .i64 (A.length:Nat)),(2,iC .i64 (b:Nat)),(3,cmpCR),(8,iC .i64 (x.1:Nat))] [(1000,itsWR (A ++ x.2.1 ++ (x.2.2 ++ Z)))]) (fun x=>b + 1 - x.1) (A.length + 1,M.take 1,M.drop 1) ?_ ?_ ?_
 · refine ⟨by simp only;omega,by simp only;omega,by simp only [List.length_take];omega,by simp only [List.length_take,List.length_drop];omega,fun x h=>hk x (List.mem_of_mem_take h),fun x h=>hk x (List.mem_of_mem_drop h),?_⟩
   rw [← hR]
   cases M with
   | nil=>rfl
   | cons x M=>rfl
 · have e:A ++ M.take 1 ++ (M.drop 1 ++ Z) = A ++ M ++ Z:=by
     rw [List.append_assoc,← List.append_assoc (M.take 1),List.take_append_drop,List.append_assoc]
   rw [e]
   exact le_auto
 · rintro ⟨i,p,q⟩ ⟨h1,h2,h3,h4,hkp,hkq,h5⟩
   simp only at h1 h2 h3 h4 hkp hkq h5 ⊢
   by_cases hlt:i < b
   · obtain ⟨x,q,rfl⟩:∃ x q',q = x :: q':=by
       cases q with
       | nil=>simp at h4;omega
       | cons x q=>exact ⟨x,q,rfl⟩
     have hip:A.length + p.length = i:=by omega
     clear h3
     have hkx:=hkq x (by simp)
     simp only [List.length_cons,List.foldl_cons] at h4 h5
     (repeat' (first|refine AW_seq ?_|refine AW_block ?_|refine AW_skip ?_|refine AW_exit ?_|refine AW_ret ?_|refine AW_region ?_|refine AL_nil ?_|refine AD_nil (by kernel_rfl) ?_|(refine AW_cl rfl rfl ⟨fun hc=>?_,fun hc=>?_⟩ <;> (repeat rw [List.length_map] at hc) <;> (try exact absd hc))|((first|apply AL_t rfl|apply AL_0 rfl|apply AD_t rfl|apply AD_0 rfl);focus (first|exact z_auto|fail))|refine thenA_n ?_|refine thenA_r ?_|refine thenA_e ?_|refine inB_n ?_|refine inB_r ?_|refine inB_hit ?_|refine inB_miss rfl ?_|((first|refine AL_cl rfl rfl rfl ⟨fun hc=>?_,fun hc=>?_⟩|refine AD_cl rfl rfl rfl ⟨fun hc=>?_,fun hc=>?_⟩) <;> (fail_if_success (have q:(true = true):=hc)) <;> (fail_if_success (have q:(false = false):=hc)) <;> (repeat rw [List.length_map] at hc) <;> (try exact absd hc))|refine AW_cond_nil rfl rfl (fun hc=>?_) ?_))
     refine AW_loopP (X:=List Rg × List Rg) (fun y=>y.1.length + y.2.length = p.length ∧ kOkR y.1 ∧ kOkR y.2 ∧ insS ltR x y.1.reverse y.2 = insT ltR p x)
       (fun y=>mkSt [(0,.row 1000 0),(1,iC .i64 (A.length:Nat)),(2,iC .i64 (b:Nat)),(3,cmpCR),(8,iC .i64 (i:Nat)),(9,iC .i64 ((A.length + y.1.length:Nat):Int))] [(1000,itsWR (A ++ y.1 ++ x :: (y.2 ++ (q ++ Z))))]) (fun y=>y.1.length) (p,[]) ⟨by simp,hkp,fun x h=>by simp at h,rfl⟩ ?_ ?_
     · subst hip
       exact le_auto
     · rintro ⟨p1,p2⟩ ⟨g1,gk1,gk2,g2⟩
       simp only at g1 gk1 gk2 g2 ⊢
       have out:insT ltR p x = p1 ++ x :: p2 → (∃ z:Nat × List Rg × List Rg,(A.length < z.1 ∧ z.1 ≤ b + 1 ∧ A.length + z.2.1.length = min z.1 b ∧ A.length + z.2.1.length + z.2.2.length = b ∧ kOkR z.2.1 ∧ kOkR z.2.2 ∧ A ++ z.2.2.foldl (insT ltR) z.2.1 ++ Z = R) ∧ z = (i + 1,p1 ++ x :: p2,q)):=fun e=>by
         refine ⟨_,⟨by simp only;omega,by simp only;omega,by simp;omega,by simp;omega,fun y hy=>?_,fun y hy=>hkq y (by simp [hy]),by rw [← e];exact h5⟩,rfl⟩
         rcases List.mem_append.1 hy with h|h
         · exact gk1 y h
         · rcases List.mem_cons.1 h with h|h
           · subst h;exact hkx
           · exact gk2 y h
       have hL0:A ++ p1 ++ x :: (p2 ++ (q ++ Z)) = A ++ (p1 ++ x :: p2) ++ (q ++ Z):=by simp
       rcases snoc_cases p1 with rfl|⟨p1',y,rfl⟩
       · have e:insT ltR p x = [] ++ x :: p2:=by rw [← g2];rfl
         obtain ⟨z,hz,rfl⟩:=out e
         rw [hL0]
         (refine w0 ?_;(repeat' first|refine W2.mk ?_ ?_|refine W1.mk fun hc=>?_))
         refine ⟨_,hz,by simp only;omega,?_⟩
         exact le_auto
       · obtain ⟨j,hj⟩:∃ j,A.length + p1'.length = j:=⟨_,rfl⟩
         have hj1:A.length + (p1' ++ [y]).length = j + 1:=by simp;omega
         have hky:=gk1 y (by simp)
         have hm:=of_1 x y hkx hky
         generalize hL:A ++ (p1' ++ [y]) ++ x :: (p2 ++ (q ++ Z)) = L at *
         have hlen:j + 1 < L.length:=by rw [← hL];simp;omega
         have HJ:(L.map rgP)[j + 1]? = some (rgP x):=by
           rw [List.getElem?_map,← hL,List.getElem?_append_right (by simp;omega),List.length_append,hj1,Nat.sub_self];rfl
         have HJ1:(L.map rgP)[j]? = some (rgP y):=by
           rw [List.getElem?_map,← hL,List.append_assoc,List.append_assoc,List.getElem?_append_right (by omega),List.getElem?_append_right (by omega)]
           rw [show j - A.length - p1'.length = 0 by omega];rfl
         rw [hj1]
         have hrev:(p1' ++ [y]).reverse = y :: p1'.reverse:=by simp
         rw [hrev,insS] at g2
         have HS1:(L.map rgP).set (j + 1) (setP (rgP x) 0 (rgP y)) = (L.set (j + 1) y).map rgP:=by rw [← map_set'];rfl
         have HJ2:((L.set (j + 1) y).map rgP)[j]? = some (rgP y):=by
           rw [← map_set',List.getElem?_set_ne (by omega)];exact HJ1
         have HS2:((L.set (j + 1) y).map rgP).set j (setP (rgP y) 0 (rgP x)) = (A ++ p1' ++ x :: ((y :: p2) ++ (q ++ Z))).map rgP:=by
           rw [map_set' rgP (L.set (j + 1) y) j x |>.symm.trans rfl |> fun h=>(show ((L.set (j + 1) y).map rgP).set j (setP (rgP y) 0 (rgP x)) = ((L.set (j + 1) y).set j x).map rgP from map_set' rgP _ j x)]
           rw [← hL,set_at (A ++ (p1' ++ [y])) x y _ (j + 1) (by simp;omega),show A ++ (p1' ++ [y]) ++ y :: (p2 ++ (q ++ Z)) = (A ++ p1') ++ y :: (y :: (p2 ++ (q ++ Z))) by simp,set_at (A ++ p1') y x _ j (by simp;omega)]
           simp
         by_cases hxy:cmpLo x y < 0
         · rw [if_pos (show ltR x y = true from decide_eq_true hxy)] at g2
           clear out
           (refine w0 ?_;(repeat' (first|refine W2.mk ?_ ?_|refine W1.mk fun hc=>?_|((first|apply AL_t rfl|apply AL_0 rfl|apply AD_t rfl|apply AD_0 rfl);(focus (first|((apply u_k 5;(focus rfl);first|exact u_load_rA ⟨rfl,rfl,rfl⟩ rfl inferInstance inferInstance rfl rfl rfl HJ rfl rfl rfl|exact u_load_rA ⟨rfl,rfl,rfl⟩ rfl inferInstance inferInstance rfl rfl rfl HJ1 rfl rfl rfl))|((apply u_k 6;(focus rfl);first|exact u_store_r ⟨rfl,rfl⟩ rfl inferInstance rfl rfl rfl rfl HJ rfl (.inl rfl) rfl HS1|exact u_store_r ⟨rfl,rfl⟩ rfl inferInstance rfl rfl rfl rfl HJ2 rfl (.inl rfl) rfl HS2))|(exact c_V [] hm)|(apply u_g;(focus rfl);apply op_gyes rfl rfl rfl rfl rfl;first|((apply u_k 5;(focus rfl);first|exact u_load_rA ⟨rfl,rfl,rfl⟩ rfl inferInstance inferInstance rfl rfl rfl HJ rfl rfl rfl|exact u_load_rA ⟨rfl,rfl,rfl⟩ rfl inferInstance inferInstance rfl rfl rfl HJ1 rfl rfl rfl))|((apply u_k 6;(focus rfl);first|exact u_store_r ⟨rfl,rfl⟩ rfl inferInstance rfl rfl rfl rfl HJ rfl (.inl rfl) rfl HS1|exact u_store_r ⟨rfl,rfl⟩ rfl inferInstance rfl rfl rfl rfl HJ2 rfl (.inl rfl) rfl HS2))|(exact c_V [] hm))));refine w0 ?_))))
           refine ⟨(p1',y :: p2),⟨by simp at g1 ⊢;omega,fun z h=>gk1 z (by simp [h]),fun z h=>?_,g2⟩,by simp,?_⟩
           · rcases List.mem_cons.1 h with h|h
             · subst h;exact hky
             · exact gk2 z h
           · simp only [hj]
             exact le_auto
         · rw [if_neg (show ¬ ltR x y = true by unfold ltR;rw [decide_eq_true_iff];exact hxy)] at g2
           have e:insT ltR p x = (p1' ++ [y]) ++ x :: p2:=by rw [← g2];simp
           obtain ⟨z,hz,rfl⟩:=out e
           (refine w0 ?_;(repeat' (first|refine W2.mk ?_ ?_|refine W1.mk fun hc=>?_|((first|apply AL_t rfl|apply AL_0 rfl|apply AD_t rfl|apply AD_0 rfl);(focus (first|((apply u_k 5;(focus rfl);first|exact u_load_rA ⟨rfl,rfl,rfl⟩ rfl inferInstance inferInstance rfl rfl rfl HJ rfl rfl rfl|exact u_load_rA ⟨rfl,rfl,rfl⟩ rfl inferInstance inferInstance rfl rfl rfl HJ1 rfl rfl rfl))|(exact c_V [] hm)|(apply u_g;(focus rfl);apply op_gyes rfl rfl rfl rfl rfl;first|((apply u_k 5;(focus rfl);first|exact u_load_rA ⟨rfl,rfl,rfl⟩ rfl inferInstance inferInstance rfl rfl rfl HJ rfl rfl rfl|exact u_load_rA ⟨rfl,rfl,rfl⟩ rfl inferInstance inferInstance rfl rfl rfl HJ1 rfl rfl rfl))|(exact c_V [] hm))));refine w0 ?_))))
           refine ⟨_,hz,by simp only;omega,?_⟩
           simp only
           rw [← hL0]
           exact le_auto
   · have hq:q = []:=List.eq_nil_of_length_eq_zero (by omega)
     subst hq
     simp only [List.foldl_nil] at h5
     (refine w0 ?_;(repeat' first|refine W2.mk ?_ ?_|refine W1.mk fun hc=>?_))
     rw [List.nil_append,h5]
     (refine ⟨(by first|exact .inl rfl|exact .inr rfl),resM0 [(1000,1000)] rfl rfl ?_⟩;(focus (repeat (first|exact AllX.nil|(refine AllX.cons rfl ?_ ?_;(focus first|rfl|skip))))))
end

section
variable {P:Program} {n:Nat} {ops:Array Oper} {o:Oper} {S:St} {t:Nat}
def blen (k:Nat):Nat:=if k = 0 then 0 else k.log2 + 1
def tabL:List UInt8:=(List.range 256).map fun k=>UInt8.ofNat (blen k)
theorem tabL_get:∀ k:Fin 256,(tabL[k.val]?).map UInt8.toNat = some (blen k.val):=by decide +kernel
theorem u_tab8 {ty:TypeId} {x ix:Operand} {kk:IntKind} {k:Nat} {z:Int} {s:ByteArray} (hp:Pl n o t) (ho:o.op = .index ty x ix) (hT:Und P ty .string) (hx:S.opd x = sC s) (hs:s.data.toList = tabL) (hi:S.opd ix = iC kk z) (hz:z = (k:Int)) (hk:k < 256) :
   OpOk n P ops o (opdN x ++ opdN ix) (iC .u8 ((blen k:Nat):Int)) [] S:=by
 have h:=tabL_get ⟨k,hk⟩
 simp only at h
 cases hc:tabL[k]? with
 | none=>rw [hc] at h;cases h
 | some c=>
   rw [hc] at h
   simp only [Option.map_some,Option.some.injEq] at h
   rw [← h]
   exact u_sindex hp ho hT hx hi (i:=k) hz (by rw [hs];exact hc)
theorem AW_cond_f {Q:Exit → St → Prop} {x y:Code} (h:AW P n y Q S):AW P n (.cond (.const (.bool false)) x y) Q S:=
 ⟨fun C a w hr=>wp_cond_split (t:=false) rfl (fun h=>by cases h) (fun _=>h.run C a w hr)⟩
theorem wrap_u8 {z:Nat} (h:z < 256):IntKind.u8.wrap (z:Int) = (z:Int):=by
 simp [IntKind.wrap,IntKind.bits,IntKind.signed];omega
end
section
theorem blen_le {k:Nat} (h:k < 256):blen k ≤ 8:=by
 have:∀ k:Fin 256,blen k.val ≤ 8:=by decide +kernel
 exact this ⟨k,h⟩
theorem bits_Len64 (k:Nat) (hk:k < 256):Fn Tryz.prog 224 [iC .u64 (k:Nat)] (inR ((blen k:Nat):Int)):=by
 have hb:=blen_le hk
 have e:(0:Int) + ((blen k:Nat):Int) = ((blen k:Nat):Int):=by omega
 have c1:((k:Nat):Int) < 256:=by omega
 refine fi Tryz.func224 Tryz.ntmps224 ?_
 (repeat' (first|refine AW_seq ?_|refine AW_block ?_|refine AW_skip ?_|refine AW_exit ?_|refine AW_ret ?_|refine AW_region ?_|refine AW_draw mixed0 ?_|refine AL_nil ?_|refine AD_nil (by kernel_rfl) ?_|(refine AW_cl rfl rfl ⟨fun hc=>?_,fun hc=>?_⟩ <;> (repeat rw [List.length_map] at hc) <;> (try exact absd hc))|((first|apply AL_t rfl|apply AL_0 rfl|apply AD_t rfl|apply AD_0 rfl);focus (first|((apply u_k 13;(focus rfl);exact u_tab8 (k:=k) ⟨rfl,rfl,rfl⟩ rfl inferInstance rfl (by decide +kernel) rfl (wrap_u8 hk) hk))|(apply u_g;(focus rfl);apply op_gyes rfl rfl rfl rfl rfl;((apply u_k 13;(focus rfl);exact u_tab8 (k:=k) ⟨rfl,rfl,rfl⟩ rfl inferInstance rfl (by decide +kernel) rfl (wrap_u8 hk) hk)))|((apply u_k 8;(focus rfl);exact op_num ⟨rfl,rfl,rfl⟩ rfl rfl rfl rfl ((wrap_id64 (by omega) (by omega)).trans e)))|(apply u_g;(focus rfl);apply op_gyes rfl rfl rfl rfl rfl;((apply u_k 8;(focus rfl);exact op_num ⟨rfl,rfl,rfl⟩ rfl rfl rfl rfl ((wrap_id64 (by omega) (by omega)).trans e))))|exact z_auto|fail))|refine thenA_n ?_|refine thenA_r ?_|refine thenA_e ?_|refine inB_n ?_|refine inB_r ?_|refine inB_hit ?_|refine inB_miss rfl ?_|((first|refine AL_cl rfl rfl rfl ⟨fun hc=>?_,fun hc=>?_⟩|refine AD_cl rfl rfl rfl ⟨fun hc=>?_,fun hc=>?_⟩) <;> (fail_if_success (have q:(true = true):=hc)) <;> (fail_if_success (have q:(false = false):=hc)) <;> (repeat rw [List.length_map] at hc) <;> (try exact absd hc))|refine AW_cond_nil rfl rfl (fun hc=>?_) ?_))
 refine rt1 ?_
 exact rv_int rfl rfl
theorem bits_Len (k:Nat) (hk:k < 256):Fn Tryz.prog 189 [iC .u64 (k:Nat)] (inR ((blen k:Nat):Int)):=by
 have h:=bits_Len64 k hk
 refine fi Tryz.func189 Tryz.ntmps189 ?_
 (refine w0 ?_;(repeat' first|refine W2.mk ?_ ?_|refine W1.mk fun hc=>?_))
 refine AW_cond_f ?_
 (repeat' (first|refine AW_seq ?_|refine AW_block ?_|refine AW_skip ?_|refine AW_exit ?_|refine AW_ret ?_|refine AW_region ?_|refine AW_draw mixed0 ?_|refine AL_nil ?_|refine AD_nil (by kernel_rfl) ?_|(refine AW_cl rfl rfl ⟨fun hc=>?_,fun hc=>?_⟩ <;> (repeat rw [List.length_map] at hc) <;> (try exact absd hc))|((first|apply AL_t rfl|apply AL_0 rfl|apply AD_t rfl|apply AD_0 rfl);focus (first|((apply u_k 10;(focus rfl);exact u_conv ⟨rfl,rfl,rfl⟩ rfl inferInstance inferInstance rfl (by with_reducible exact wrap_u64 (by omega) (by omega))))|(apply u_g;(focus rfl);apply op_gyes rfl rfl rfl rfl rfl;((apply u_k 10;(focus rfl);exact u_conv ⟨rfl,rfl,rfl⟩ rfl inferInstance inferInstance rfl (by with_reducible exact wrap_u64 (by omega) (by omega)))))|exact z_auto|exact c_A (h)|fail))|refine thenA_n ?_|refine thenA_r ?_|refine thenA_e ?_|refine inB_n ?_|refine inB_r ?_|refine inB_hit ?_|refine inB_miss rfl ?_|((first|refine AL_cl rfl rfl rfl ⟨fun hc=>?_,fun hc=>?_⟩|refine AD_cl rfl rfl rfl ⟨fun hc=>?_,fun hc=>?_⟩) <;> (fail_if_success (have q:(true = true):=hc)) <;> (fail_if_success (have q:(false = false):=hc)) <;> (repeat rw [List.length_map] at hc) <;> (try exact absd hc))|refine AW_cond_nil rfl rfl (fun hc=>?_) ?_))
 refine rt1 ?_
 exact rv_int rfl rfl
theorem pdq_few (M:List Rg) (lim:Int) (hk:kOkR M) (hl:M.length ≤ 12):FnM Tryz.prog 188 [.row 1000 0,iC .i64 0,iC .i64 (M.length:Nat),iC .i64 lim,cmpCR] [(1000,itsWR M)] .any [(1000,itsWR (srtS ltR M))]:=by
 have h:=sort_insR [] M [] hk (by simp;omega)
 simp only [List.nil_append,List.append_nil,List.length_nil,Nat.zero_add] at h
 generalize srtS ltR M = R at *
 have e:((M.length:Nat):Int) - 0 = ((M.length:Nat):Int):=by omega
 refine fmi Tryz.func188 Tryz.ntmps188 ?_
 (have km1:=(show FnMs [(1000,1000)] _ _ _ _ _ _ from h);have ke1:=Lib.hid (e);refine w0e ?_;(repeat' first|refine W2.mk ?_ ?_|refine W1.mk fun hc=>?_);all_goals clear ke1 km1)
 refine AW_loopP (X:=Unit) (fun _=>True) (fun _=>mkSt [(0,.row 1000 0),(1,iC .i64 0),(2,iC .i64 (M.length:Nat)),(3,iC .i64 lim),(4,cmpCR)] [(1000,itsWR M)]) (fun _=>0) () trivial ?_ ?_
 · exact le_auto
 · rintro _ -
   (have km1:=(show FnMs [(1000,1000)] _ _ _ _ _ _ from h);have ke1:=Lib.hid (e);refine w0e ?_;(repeat' first|refine W2.mk ?_ ?_|refine W1.mk fun hc=>?_);all_goals clear ke1 km1)
   (refine ⟨(by first|exact .inl rfl|exact .inr rfl),resM0 [(1000,1000)] rfl rfl ?_⟩;(focus (repeat (first|exact AllX.nil|(refine AllX.cons rfl ?_ ?_;(focus first|rfl|skip))))))
theorem sort_few (M:List Rg) (hk:kOkR M) (hl:M.length ≤ 12):FnM Tryz.prog 143 [.row 1000 0,cmpCR] [(1000,itsWR M)] .any [(1000,itsWR (srtS ltR M))]:=by
 have h1:=bits_Len M.length (by omega)
 have h:=pdq_few M ((blen M.length:Nat):Int) hk hl
 generalize srtS ltR M = R at *
 refine fmi Tryz.func143 Tryz.ntmps143 ?_
 (repeat' (first|refine AW_seq ?_|refine AW_block ?_|refine AW_skip ?_|refine AW_exit ?_|refine AW_ret ?_|refine AW_region ?_|refine AW_draw mixed0 ?_|refine AL_nil ?_|refine AD_nil (by kernel_rfl) ?_|(refine AW_cl rfl rfl ⟨fun hc=>?_,fun hc=>?_⟩ <;> (repeat rw [List.length_map] at hc) <;> (try exact absd hc))|((first|apply AL_t rfl|apply AL_0 rfl|apply AD_t rfl|apply AD_0 rfl);focus (first|((apply u_k 10;(focus rfl);exact u_conv ⟨rfl,rfl,rfl⟩ rfl inferInstance inferInstance rfl (by with_reducible exact wrap_u64 (by omega) (by omega))))|(apply u_g;(focus rfl);apply op_gyes rfl rfl rfl rfl rfl;((apply u_k 10;(focus rfl);exact u_conv ⟨rfl,rfl,rfl⟩ rfl inferInstance inferInstance rfl (by with_reducible exact wrap_u64 (by omega) (by omega)))))|exact z_auto|exact c_A (h1)|exact c_MA [(1000,1000)] (h)|fail))|refine thenA_n ?_|refine thenA_r ?_|refine thenA_e ?_|refine inB_n ?_|refine inB_r ?_|refine inB_hit ?_|refine inB_miss rfl ?_|((first|refine AL_cl rfl rfl rfl ⟨fun hc=>?_,fun hc=>?_⟩|refine AD_cl rfl rfl rfl ⟨fun hc=>?_,fun hc=>?_⟩) <;> (fail_if_success (have q:(true = true):=hc)) <;> (fail_if_success (have q:(false = false):=hc)) <;> (repeat rw [List.length_map] at hc) <;> (try exact absd hc))|refine AW_cond_nil rfl rfl (fun hc=>?_) ?_))
 (refine ⟨(by first|exact .inl rfl|exact .inr rfl),resM0 [(1000,1000)] rfl rfl ?_⟩;(focus (repeat (first|exact AllX.nil|(refine AllX.cons rfl ?_ ?_;(focus first|rfl|skip))))))
end
abbrev ownRg (l:List Rg):Ret:=.own 82 3 (l.map rgP)
theorem ofS_take {Q:List Rg} {k:Nat} (hk:k < Q.length):rgOfS (Q.take (k + 1)) = ofF (rgOfS (Q.take k)) Q[k]:=by
 unfold rgOfS;rw [List.take_succ_eq_append_getElem hk,List.foldl_append];rfl
theorem ofS_right {Q:List Rg} (hR:∀ r ∈ Q,rgR r = true) (hS:Q.Pairwise (fun x y=>x.lo ≤ y.lo)) (k:Nat):∀ r ∈ rgOfS (Q.take k),rgR r = true:=by
 intro r hr
 have h:=(rgOfS_ok (L:=Q.take k) (fun x hx=>hR x (List.mem_of_mem_take hx)) (hS.sublist (List.take_sublist _ _))).1
 obtain ⟨i,hi,rfl⟩:=List.getElem_of_mem hr
 exact (h i hi).1
theorem ofS_len (Q:List Rg) (k:Nat):(rgOfS (Q.take k)).length ≤ k:=by
 have h:=of_len (Q.take k) []
 rw [List.length_take] at h
 simp only [List.length_nil] at h
 unfold rgOfS
 omega
section
theorem rgs_OfG (l Q:List Rg) (hs:FnM Tryz.prog 143 [.row 1000 0,cmpCR] [(1000,itsWR (l.filter rgR))] .any [(1000,itsWR Q)]) (hql:Q.length = (l.filter rgR).length)
   (hQr:∀ x ∈ Q,rgR x = true) (hQs:Q.Pairwise fun x y=>x.lo ≤ y.lo) (hn:l.length ≤ 1000000000):Fn Tryz.prog 91 [rgsB l] (ownRg (rgOfS Q)):=by
 generalize hT:l.filter rgR = T at *
 have hTl:T.length ≤ 1000000000:=by rw [← hT];exact Nat.le_trans (List.length_filter_le _ _) hn
 generalize hR:rgOfS Q = R
 refine fi Tryz.func91 Tryz.ntmps91 ?_
 (refine w0 ?_;(repeat' first|refine W2.mk ?_ ?_|refine W1.mk fun hc=>?_))
 refine AW_le (Le_nil 3 600 82 3 rfl rfl) ?_
 refine AW_loopP (X:=Nat × List Rg) (fun x=>x.1 ≤ l.length ∧ x.2 ++ (l.drop x.1).filter rgR = T)
   (fun x=>mkSt [(3,.row 600 0),(10,rgsB l),(11,iC .i64 (l.length:Nat)),(12,iC .i64 (x.1:Nat))] [(600,itsWR x.2)]) (fun x=>l.length - x.1) (0,[]) ⟨Nat.zero_le _,by simp [hT]⟩ ?_ ?_
 · exact le_auto
 · rintro ⟨k,ac⟩ ⟨g1,g2⟩
   simp only at g1 g2 ⊢
   by_cases hk:k < l.length
   · have hir:=span_Right l[k]
     have hlen:ac.length ≤ 1000000000:=by
       have:=congrArg List.length g2
       simp only [List.length_append] at this;omega
     rw [List.drop_eq_getElem_cons hk,List.filter_cons] at g2
     cases hr:rgR l[k] with
     | false=>
       rw [hr] at hir g2
       (have kc1:=hir;refine w0 ?_;(repeat' first|refine W2.mk ?_ ?_|refine W1.mk fun hc=>?_);all_goals clear kc1)
       refine ⟨(k + 1,ac),⟨by simp only;omega,by simpa using g2⟩,by simp only;omega,?_⟩
       exact le_auto
     | true=>
       rw [hr] at hir g2
       (have kc1:=hir;refine w0 ?_;(repeat' first|refine W2.mk ?_ ?_|refine W1.mk fun hc=>?_);all_goals clear kc1)
       refine ⟨(k + 1,ac ++ [l[k]]),⟨by simp only;omega,by simpa using g2⟩,by simp only;omega,Le_trans (Le_mv 600 601) (Le_trans (Le_mv 601 600) ?_)⟩
       exact le_auto
   · have hkl:k = l.length:=by omega
     subst hkl
     rw [List.drop_length] at g2
     simp at g2
     subst g2
     (have km1:=(show FnMs [(1000,600)] _ _ _ _ _ _ from hs);refine w0 ?_;(repeat' first|refine W2.mk ?_ ?_|refine W1.mk fun hc=>?_);all_goals clear km1)
     clear hs hT
     refine AW_le (Le_nil 6 700 82 3 rfl rfl) ?_
     refine AW_loopP (X:=Nat × List Rg) (fun x=>x.1 ≤ Q.length ∧ x.2 = rgOfS (Q.take x.1))
       (fun x=>mkSt [(6,.row 700 0),(25,.row 600 0),(26,iC .i64 (Q.length:Nat)),(27,iC .i64 (x.1:Nat))] [(600,itsWR Q),(700,itsWR x.2)]) (fun x=>Q.length - x.1) (0,[]) ⟨Nat.zero_le _,rfl⟩ ?_ ?_
     · exact le_auto
     · rintro ⟨k,out⟩ ⟨g1,g2⟩
       simp only at g1 g2 ⊢
       by_cases hk:k < Q.length
       · have hol:out.length ≤ 1000000000:=by have:=ofS_len Q k;rw [← g2] at this;omega
         have hor:=ofS_right hQr hQs k
         rw [← g2] at hor
         have g3:=ofS_take hk
         rw [← g2] at g3
         have hxr:=hQr _ (List.getElem_mem hk)
         generalize hx:Q[k] = x at *
         have HQ:(Q.map rgP)[k]? = some (rgP x):=by rw [List.getElem?_map,List.getElem?_eq_getElem hk,hx];rfl
         clear hQr hQs hx g2
         rcases snoc_cases out with rfl|⟨o,y,rfl⟩
         · have g4:[x] = rgOfS (Q.take (k + 1)):=by rw [g3];rfl
           (refine w0 ?_;(repeat' (first|refine W2.mk ?_ ?_|refine W1.mk fun hc=>?_|((first|apply AL_t rfl|apply AL_0 rfl|apply AD_t rfl|apply AD_0 rfl);(focus (first|((apply u_k 5;(focus rfl);exact u_load_rA ⟨rfl,rfl,rfl⟩ rfl inferInstance inferInstance rfl rfl rfl HQ rfl rfl rfl))|(apply u_g;(focus rfl);apply op_gyes rfl rfl rfl rfl rfl;first|((apply u_k 5;(focus rfl);exact u_load_rA ⟨rfl,rfl,rfl⟩ rfl inferInstance inferInstance rfl rfl rfl HQ rfl rfl rfl)))));refine w0 ?_))))
           refine ⟨(k + 1,[x]),⟨by simp only;omega,g4⟩,by simp only;omega,Le_trans (Le_mv 700 701) (Le_trans (Le_mv 701 700) ?_)⟩
           exact le_auto
         · have hyr:=hor y (by simp)
           clear hor
           have hG:rgOfS (Q.take (k + 1)) = (if y.op = false ∧ cmpB y.hi x.lo < 0 then (o ++ [y]) ++ [x] else if endR y x < 0 then o ++ [⟨y.lo,x.hi,x.op⟩] else o ++ [y]):=by
             rw [g3,ofF]
             simp only [List.reverse_append,List.reverse_cons,List.reverse_nil,List.nil_append,List.singleton_append,List.reverse_reverse]
           clear g3
           have hcm:=key_Cmp y.hi x.lo (by have:=((rgR_iff y).1 hyr).2.1;omega)
           have hen:=span_Ends y x hyr hxr
           clear hyr hxr
           have hL1:(o ++ [y]).length = o.length + 1:=by simp
           generalize hL:o ++ [y] = L at *
           have hLi:((L.length:Int) - 1).toNat = o.length:=by omega
           have HY:(L.map rgP)[((L.length:Int) - 1).toNat]? = some (rgP y):=by
             rw [List.getElem?_map,hLi,← hL]
             simp
           have HS1:(L.map rgP).set ((L.length:Int) - 1).toNat (setP (rgP y) 1 [rawP (.string x.hi)]) = (o ++ [(⟨y.lo,x.hi,y.op⟩:Rg)]).map rgP:=by
             rw [show (L.map rgP).set ((L.length:Int) - 1).toNat (setP (rgP y) 1 [rawP (.string x.hi)]) = (L.set ((L.length:Int) - 1).toNat ⟨y.lo,x.hi,y.op⟩).map rgP from map_set' rgP L _ (⟨y.lo,x.hi,y.op⟩:Rg),← hL,set_at o y _ [] _ (by rw [hL];omega)]
           have HY2:((o ++ [(⟨y.lo,x.hi,y.op⟩:Rg)]).map rgP)[((L.length:Int) - 1).toNat]? = some (rgP ⟨y.lo,x.hi,y.op⟩):=by
             rw [List.getElem?_map,hLi]
             simp
           have HS2:((o ++ [(⟨y.lo,x.hi,y.op⟩:Rg)]).map rgP).set ((L.length:Int) - 1).toNat (setP (rgP ⟨y.lo,x.hi,y.op⟩) 2 [rawP (.bool x.op)]) = (o ++ [(⟨y.lo,x.hi,x.op⟩:Rg)]).map rgP:=by
             rw [show ((o ++ [(⟨y.lo,x.hi,y.op⟩:Rg)]).map rgP).set ((L.length:Int) - 1).toNat (setP (rgP ⟨y.lo,x.hi,y.op⟩) 2 [rawP (.bool x.op)]) = ((o ++ [(⟨y.lo,x.hi,y.op⟩:Rg)]).set ((L.length:Int) - 1).toNat ⟨y.lo,x.hi,x.op⟩).map rgP from map_set' rgP (o ++ [(⟨y.lo,x.hi,y.op⟩:Rg)]) _ (⟨y.lo,x.hi,x.op⟩:Rg),set_at o _ _ [] _ (by omega)]
           generalize hE:endR y x = E at *
           generalize hC:cmpB y.hi x.lo = C at *
           cases hyo:y.op with
           | true=>
             rw [hyo,if_neg (by simp)] at hG
             have HYt:(L.map rgP)[((L.length:Int) - 1).toNat]? = some [rawP (.string y.lo),rawP (.string y.hi),rawP (.bool true)]:=by rw [HY];simp only [rgP,hyo]
             (have kc1:=hcm;have kc2:=hen;refine w0 ?_;(repeat' (first|refine W2.mk ?_ ?_|refine W1.mk fun hc=>?_|((first|apply AL_t rfl|apply AL_0 rfl|apply AD_t rfl|apply AD_0 rfl);(focus (first|((apply u_k 5;(focus rfl);first|exact u_load_r1 ⟨rfl,rfl,rfl⟩ rfl inferInstance rfl rfl rfl HYt rfl|exact u_load_rA ⟨rfl,rfl,rfl⟩ rfl inferInstance inferInstance rfl rfl rfl HY rfl rfl rfl|exact u_load_rA ⟨rfl,rfl,rfl⟩ rfl inferInstance inferInstance rfl rfl rfl HQ rfl rfl rfl))|((apply u_k 6;(focus rfl);first|exact u_store_r ⟨rfl,rfl⟩ rfl inferInstance rfl rfl rfl rfl HY rfl (part_raw rfl rfl rfl) rfl HS1|exact u_store_r ⟨rfl,rfl⟩ rfl inferInstance rfl rfl rfl rfl HY2 rfl (part_raw rfl rfl rfl) rfl HS2))|(apply u_g;(focus rfl);apply op_gyes rfl rfl rfl rfl rfl;first|((apply u_k 5;(focus rfl);first|exact u_load_r1 ⟨rfl,rfl,rfl⟩ rfl inferInstance rfl rfl rfl HYt rfl|exact u_load_rA ⟨rfl,rfl,rfl⟩ rfl inferInstance inferInstance rfl rfl rfl HY rfl rfl rfl|exact u_load_rA ⟨rfl,rfl,rfl⟩ rfl inferInstance inferInstance rfl rfl rfl HQ rfl rfl rfl))|((apply u_k 6;(focus rfl);first|exact u_store_r ⟨rfl,rfl⟩ rfl inferInstance rfl rfl rfl rfl HY rfl (part_raw rfl rfl rfl) rfl HS1|exact u_store_r ⟨rfl,rfl⟩ rfl inferInstance rfl rfl rfl rfl HY2 rfl (part_raw rfl rfl rfl) rfl HS2)))));refine w0 ?_)));all_goals clear kc2 kc1)
             · rw [if_pos (by omega)] at hG
               refine ⟨(k + 1,_),⟨by simp only;omega,hG.symm⟩,by simp only;omega,?_⟩
               exact le_auto
             · rw [if_neg (by omega)] at hG
               refine ⟨(k + 1,L),⟨by simp only;omega,hG.symm⟩,by simp only;omega,?_⟩
               exact le_auto
           | false=>
             rw [hyo] at hG
             have HYt:(L.map rgP)[((L.length:Int) - 1).toNat]? = some [rawP (.string y.lo),rawP (.string y.hi),rawP (.bool false)]:=by rw [HY];simp only [rgP,hyo]
             by_cases hC0:C < 0
             · rw [if_pos ⟨rfl,hC0⟩] at hG
               (have kc1:=hcm;have kc2:=hen;refine w0 ?_;(repeat' (first|refine W2.mk ?_ ?_|refine W1.mk fun hc=>?_|((first|apply AL_t rfl|apply AL_0 rfl|apply AD_t rfl|apply AD_0 rfl);(focus (first|((apply u_k 5;(focus rfl);first|exact u_load_r1 ⟨rfl,rfl,rfl⟩ rfl inferInstance rfl rfl rfl HYt rfl|exact u_load_rA ⟨rfl,rfl,rfl⟩ rfl inferInstance inferInstance rfl rfl rfl HY rfl rfl rfl|exact u_load_rA ⟨rfl,rfl,rfl⟩ rfl inferInstance inferInstance rfl rfl rfl HQ rfl rfl rfl))|((apply u_k 6;(focus rfl);first|exact u_store_r ⟨rfl,rfl⟩ rfl inferInstance rfl rfl rfl rfl HY rfl (part_raw rfl rfl rfl) rfl HS1|exact u_store_r ⟨rfl,rfl⟩ rfl inferInstance rfl rfl rfl rfl HY2 rfl (part_raw rfl rfl rfl) rfl HS2))|(apply u_g;(focus rfl);apply op_gyes rfl rfl rfl rfl rfl;first|((apply u_k 5;(focus rfl);first|exact u_load_r1 ⟨rfl,rfl,rfl⟩ rfl inferInstance rfl rfl rfl HYt rfl|exact u_load_rA ⟨rfl,rfl,rfl⟩ rfl inferInstance inferInstance rfl rfl rfl HY rfl rfl rfl|exact u_load_rA ⟨rfl,rfl,rfl⟩ rfl inferInstance inferInstance rfl rfl rfl HQ rfl rfl rfl))|((apply u_k 6;(focus rfl);first|exact u_store_r ⟨rfl,rfl⟩ rfl inferInstance rfl rfl rfl rfl HY rfl (part_raw rfl rfl rfl) rfl HS1|exact u_store_r ⟨rfl,rfl⟩ rfl inferInstance rfl rfl rfl rfl HY2 rfl (part_raw rfl rfl rfl) rfl HS2)))));refine w0 ?_)));all_goals clear kc2 kc1)
               refine ⟨(k + 1,L ++ [x]),⟨by simp only;omega,hG.symm⟩,by simp only;omega,Le_trans (Le_mv 700 701) (Le_trans (Le_mv 701 700) ?_)⟩
               exact le_auto
             · rw [if_neg (fun h=>hC0 h.2)] at hG
               (have kc1:=hcm;have kc2:=hen;refine w0 ?_;(repeat' (first|refine W2.mk ?_ ?_|refine W1.mk fun hc=>?_|((first|apply AL_t rfl|apply AL_0 rfl|apply AD_t rfl|apply AD_0 rfl);(focus (first|((apply u_k 5;(focus rfl);first|exact u_load_r1 ⟨rfl,rfl,rfl⟩ rfl inferInstance rfl rfl rfl HYt rfl|exact u_load_rA ⟨rfl,rfl,rfl⟩ rfl inferInstance inferInstance rfl rfl rfl HY rfl rfl rfl|exact u_load_rA ⟨rfl,rfl,rfl⟩ rfl inferInstance inferInstance rfl rfl rfl HQ rfl rfl rfl))|((apply u_k 6;(focus rfl);first|exact u_store_r ⟨rfl,rfl⟩ rfl inferInstance rfl rfl rfl rfl HY rfl (part_raw rfl rfl rfl) rfl HS1|exact u_store_r ⟨rfl,rfl⟩ rfl inferInstance rfl rfl rfl rfl HY2 rfl (part_raw rfl rfl rfl) rfl HS2))|(apply u_g;(focus rfl);apply op_gyes rfl rfl rfl rfl rfl;first|((apply u_k 5;(focus rfl);first|exact u_load_r1 ⟨rfl,rfl,rfl⟩ rfl inferInstance rfl rfl rfl HYt rfl|exact u_load_rA ⟨rfl,rfl,rfl⟩ rfl inferInstance inferInstance rfl rfl rfl HY rfl rfl rfl|exact u_load_rA ⟨rfl,rfl,rfl⟩ rfl inferInstance inferInstance rfl rfl rfl HQ rfl rfl rfl))|((apply u_k 6;(focus rfl);first|exact u_store_r ⟨rfl,rfl⟩ rfl inferInstance rfl rfl rfl rfl HY rfl (part_raw rfl rfl rfl) rfl HS1|exact u_store_r ⟨rfl,rfl⟩ rfl inferInstance rfl rfl rfl rfl HY2 rfl (part_raw rfl rfl rfl) rfl HS2)))));refine w0 ?_)));all_goals clear kc2 kc1)
               · rw [if_pos (by omega)] at hG
                 refine ⟨(k + 1,_),⟨by simp only;omega,hG.symm⟩,by simp only;omega,?_⟩
                 exact le_auto
               · rw [if_neg (by omega)] at hG
                 refine ⟨(k + 1,L),⟨by simp only;omega,hG.symm⟩,by simp only;omega,?_⟩
                 exact le_auto
       · have hkl:k = Q.length:=by omega
         subst hkl
         have g3:out = R:=by rw [g2,List.take_length];exact hR
         (refine w0 ?_;(repeat' first|refine W2.mk ?_ ?_|refine W1.mk fun hc=>?_))
         refine rt1 ?_
         exact rv_ownM rfl rfl rfl (by rw [g3])
theorem rgs_Of (l:List Rg) (hl:(l.filter rgR).length ≤ 12) (hn:l.length ≤ 1000000000):Fn Tryz.prog 91 [rgsB l] (ownRg (rgOf l)):=by
 have hTr:∀ x ∈ l.filter rgR,rgR x = true:=fun x hx=>(List.mem_filter.1 hx).2
 exact rgs_OfG l (srtS ltR (l.filter rgR)) (sort_few _ (fun x hx=>by have:=((rgR_iff x).1 (hTr x hx)).1;show x.lo.size ≤ _;omega) hl) (srtS_len _) (fun x hx=>hTr x ((srtS_mem ltR_wo).1 hx))
   (((srtS_spec ltR_wo _).1).imp fun {x y} h=>by simp only [ltR,decide_eq_false_iff_not,o_lt] at h;grind) hn
theorem rgs_right (l:List Rg) (hl:l.length ≤ 12):∃ m,rgsOk m ∧ m.length ≤ l.length ∧ (∀ s,anyR m s = anyR l s) ∧ Fn Tryz.prog 132 [.per (rgsP l)] (.per (rgsP m)):=by
 by_cases hok:rgsOk l
 · refine ⟨l,hok,Nat.le_refl _,fun _=>rfl,?_⟩
   have h1:=rgs_Right l (by omega) true (by simp [hok])
   refine fi Tryz.func132 Tryz.ntmps132 ?_
   (have kc1:=h1;refine w0 ?_;(repeat' first|refine W2.mk ?_ ?_|refine W1.mk fun hc=>?_);all_goals clear kc1)
   refine rt1 ?_
   exact rv_per rfl
 · obtain ⟨a1,a2⟩:=rgOf_spec l
   have a3:=rgOf_len l
   refine ⟨rgOf l,a1,a3,a2,?_⟩
   have h1:=rgs_Right l (by omega) false (by simp [hok])
   have h2:=(rgs_Of l (by have:=List.length_filter_le rgR l;omega) (by omega)).frz
   refine fi Tryz.func132 Tryz.ntmps132 ?_
   (have kc1:=h1;have kc2:=h2;refine w0 ?_;(repeat' first|refine W2.mk ?_ ?_|refine W1.mk fun hc=>?_);all_goals clear kc2 kc1)
   refine rt1 ?_
   exact rv_per rfl
theorem rgs_find (l:List Rg) (s:ByteArray) (hs:s.size ≤ 1000000000) (hl:l.length ≤ 1000000000) (p:Nat) (hp:p ≤ l.length) (hlt:∀ j (hj:j < l.length),((l[j].op = true ∨ s < l[j].hi) ↔ p ≤ j)) :
   Fn Tryz.prog 133 [.per (rgsP l),sC s] (inR (p:Nat)):=by
 refine fi Tryz.func133 Tryz.ntmps133 ?_
 (refine w0 ?_;(repeat' first|refine W2.mk ?_ ?_|refine W1.mk fun hc=>?_))
 refine AW_loopP (X:=Nat × Nat) (fun z=>z.1 ≤ p ∧ p ≤ z.2 ∧ z.2 ≤ l.length)
   (fun z=>mkSt [(0,.per (rgsP l)),(1,sC s),(5,iC .i64 (z.1:Nat)),(6,iC .i64 (z.2:Nat))] []) (fun z=>z.2 - z.1) (0,l.length) ⟨Nat.zero_le _,hp,Nat.le_refl _⟩ ?_ ?_
 · exact le_auto
 · rintro ⟨i,j⟩ ⟨h1,h2,h3⟩
   simp only at h1 h2 h3 ⊢
   by_cases hij:i < j
   · obtain ⟨h,hh'⟩:∃ h:Nat,(i:Int) + ((j:Int) - (i:Int)) / 2 = (h:Nat):=⟨i + (j - i) / 2,by omega⟩
     have hih:i ≤ h:=by omega
     have hhj:h < j:=by omega
     have hlt':=hlt h (by omega)
     have hmm:=key_Cmp s l[h].hi (by omega)
     clear hlt
     cases ho:l[h].op with
     | true=>
       rw [ho] at hlt'
       have:=hlt'.1 (.inl rfl)
       clear hlt'
       (have ke1:=Lib.hid (hh');have kc1:=hmm;refine w0e ?_;(repeat' first|refine W2.mk ?_ ?_|refine W1.mk fun hc=>?_);all_goals clear kc1 ke1)
       all_goals first|(exfalso;simp_all;done)|skip
       refine ⟨(i,h),⟨h1,by simp only;omega,by simp only;omega⟩,by simp only;omega,?_⟩
       exact le_auto
     | false=>
       rw [ho] at hlt'
       have hq:cmpB s l[h].hi < 0 ↔ p ≤ h:=by rw [← hlt',o_lt];simp
       clear hlt'
       (have ke1:=Lib.hid (hh');have kc1:=hmm;refine w0e ?_;(repeat' first|refine W2.mk ?_ ?_|refine W1.mk fun hc=>?_);all_goals clear kc1 ke1)
       all_goals first|(exfalso;simp_all;done)|skip
       · refine ⟨(i,h),⟨h1,by simp only;omega,by simp only;omega⟩,by simp only;omega,?_⟩
         exact le_auto
       · refine ⟨(h + 1,j),⟨by simp only;omega,h2,h3⟩,by simp only;omega,?_⟩
         exact le_auto
   · obtain rfl:i = p:=by omega
     (refine w0 ?_;(repeat' first|refine W2.mk ?_ ?_|refine W1.mk fun hc=>?_))
     refine rt1 ?_
     exact rv_int rfl rfl
theorem rgs_Has (l:List Rg) (s:ByteArray) (hl:l.length ≤ 12) (hs:s.size ≤ 1000000000):Fn Tryz.prog 80 [.per (rgsP l),sC s] (boR (anyR l s)):=by
 obtain ⟨m,hok,hml,hany,h1⟩:=rgs_right l hl
 obtain ⟨p,hp,hlt⟩:=find_ex hok s
 have h2:=rgs_find m s hs (by omega) p hp hlt
 have hA:=has_at hok hlt
 rw [hany] at hA
 rw [hA]
 clear hA hany hlt hok
 by_cases hn:p < m.length
 · have h3:=span_Has m[p] s hs
   rw [List.getElem?_eq_getElem hn]
   simp only
   refine fi Tryz.func80 Tryz.ntmps80 ?_
   (have kc1:=h1;have kc2:=h2;have kc3:=h3;refine w0 ?_;(repeat' first|refine W2.mk ?_ ?_|refine W1.mk fun hc=>?_);all_goals clear kc3 kc2 kc1)
   refine rt1 ?_
   exact rv_bool rfl rfl
 · rw [List.getElem?_eq_none (by omega)]
   simp only
   refine fi Tryz.func80 Tryz.ntmps80 ?_
   (have kc1:=h1;have kc2:=h2;refine w0 ?_;(repeat' first|refine W2.mk ?_ ?_|refine W1.mk fun hc=>?_);all_goals clear kc2 kc1)
   refine rt1 ?_
   exact rv_bool rfl rfl
end
end Go.Proofs.YtembiemaiacdfaaGreat
