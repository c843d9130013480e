/- Texts joined: DeZ KkR DeW MrR PlC. -/
import Derived.Test.YtembiemaiacdfaaGreatJ21
import Derived.Test.YtembiemaiacdfaaGreatJ05
import Derived.Test.YtembiemaiacdfaaGreatJ38
import Derived.Test.YtembiemaiacdfaaGreatJ23
import Derived.Test.YtembiemaiacdfaaGreatJ13
import Derived.Test.YtembiemaiacdfaaGreatJ31
import Derived.Test.YtembiemaiacdfaaGreatJ39
import Derived.Test.YtembiemaiacdfaaGreatJ36
set_option maxRecDepth 10000
set_option maxHeartbeats 8000000
namespace Go.Proofs.YtembiemaiacdfaaGreat
section
end
section
theorem rkn_Join (a b:List Pc) (ha:pcsMid a) (hb:pcsMid b) (hab:pcsMid (a ++ b)) (la:a.length ≤ 500000) (lb:b.length ≤ 500000):Fn Tryz.prog 74 [pcsB a,pcsB b] (ownPc (ofK (a ++ b))):=by
 have h:=rkn_Make 1 a b (atK (a ++ b)) la lb (fun s hs=>rkn_What1 a b s ha hb (edgK_sz hs)) (fun s _=>by
   have:=atK_sz hab s
   exact knsTot.sz ⟨by omega,by omega⟩)
 rw [show bldK (atK (a ++ b)) (edgK (a ++ b)) = ofK (a ++ b) from rfl] at h
 generalize ofK (a ++ b) = R at *
 refine fi Tryz.func74 Tryz.ntmps74 ?_
 (have kc1:=h;refine w0 ?_;(repeat' first|refine W2.mk ?_ ?_|refine W1.mk fun hc=>?_);all_goals clear kc1)
 refine rt1 ?_
 exact rv_own rfl rfl rfl
theorem rkn_Less (a b:List Pc) (ha:pcsMid a) (hb:pcsMid b) (la:a.length ≤ 500000) (lb:b.length ≤ 500000):Fn Tryz.prog 12 [pcsB a,pcsB b] (ownPc (lessKn a b)):=by
 have h:=rkn_Make 2 a b (fun s=>vsLess (atK a s) (atK b s)) la lb (fun s hs=>rkn_What2 a b s ha hb (edgK_sz hs)) (fun s _=>by
   have:=vsLess_sz ha hb s
   exact knsTot.sz ⟨by omega,by omega⟩)
 rw [show bldK (fun s=>vsLess (atK a s) (atK b s)) (edgK (a ++ b)) = lessKn a b from rfl] at h
 generalize lessKn a b = R at *
 refine fi Tryz.func12 Tryz.ntmps12 ?_
 (have kc1:=h;refine w0 ?_;(repeat' first|refine W2.mk ?_ ?_|refine W1.mk fun hc=>?_);all_goals clear kc1)
 refine rt1 ?_
 exact rv_own rfl rfl rfl
end
def bstK (s:ByteArray):Nat → Option (Nat × It) → List It → Option (Nat × It)
 | _,b,[]=>b
 | i,b,x :: r=>bstK s (i + 1) (if x.key = s then bstF b i x else b) r
theorem bstF_look {s:ByteArray} {b:Option (Nat × It)} {i:Nat} {x:It}:(if x.key = s then bstF b i x else b).map Prod.snd = comb (b.map Prod.snd) (lookK s ([x].filter itR)):=by
 by_cases hr:itR x = true
 · rw [List.filter_cons_of_pos hr,List.filter_nil,look_one]
   by_cases hk:x.key = s
   · rw [if_pos hk,if_pos ((sbeq _ _).2 hk)]
     unfold bstF
     rw [if_pos hr]
     cases b with
     | none=>rfl
     | some p=>
       simp only [Option.map_some,comb]
       split <;> rfl
   · rw [if_neg hk,if_neg (by rw [sbeq];exact hk),comb_none]
 · rw [List.filter_cons_of_neg hr,List.filter_nil]
   have:bstF b i x = b:=by unfold bstF;rw [if_neg hr]
   rw [this]
   have hn:lookK s ([]:List It) = none:=rfl
   rw [hn,comb_none]
   split <;> rfl
theorem bstK_look (s:ByteArray):∀ (r:List It) (i:Nat) (b:Option (Nat × It)),(bstK s i b r).map Prod.snd = comb (b.map Prod.snd) (lookK s (r.filter itR)):=by
 intro r
 induction r with
 | nil=>intro i b;exact (comb_none _).symm
 | cons x r ih=>
   intro i b
   rw [bstK,ih,bstF_look,comb_assoc,← look_app,← List.filter_append,List.singleton_append]
theorem bstKF_ok {l:List It} {s:ByteArray} {b:Option (Nat × It)} {i:Nat} (hi:i < l.length) (h:bOk l b):bOk l (if l[i].key = s then bstF b i l[i] else b):=by
 split
 · exact bstF_ok hi h
 · exact h
theorem bstK_ok {l:List It} {s:ByteArray}:∀ (r:List It) (i:Nat) (b:Option (Nat × It)),l.drop i = r → bOk l b → bOk l (bstK s i b r):=by
 intro r
 induction r with
 | nil=>intro i b _ h;exact h
 | cons x r ih=>
   intro i b hd h
   have hi:i < l.length:=by
     rcases Nat.lt_or_ge i l.length with q|q
     · exact q
     · rw [List.drop_eq_nil_of_le q] at hd;cases hd
   rw [List.drop_eq_getElem_cons hi] at hd
   cases hd
   exact ih (i + 1) _ rfl (bstKF_ok hi h)
theorem comb_some {a:It} {b:Option It}:comb (some a) b ≠ none:=by
 cases b with
 | none=>simp [comb]
 | some b=>simp only [comb];split <;> simp
theorem look_ne {k:ByteArray} {l:List It} {x:It} (hx:x ∈ l) (hk:x.key = k):lookK k l ≠ none:=by
 unfold lookK
 have hm:x ∈ l.filter fun x=>x.key == k:=List.mem_filter.2 ⟨hx,(sbeq _ _).2 hk⟩
 cases hf:l.filter (fun x=>x.key == k) with
 | nil=>rw [hf] at hm;cases hm
 | cons y r=>
   rw [List.foldl_cons,lkF_from]
   exact comb_some
/-- comes behind all that is out -/
def aft (o:List It) (k:ByteArray):Bool:=match o.reverse with
 | []=>true
 | z :: _=>decide (cmpB z.key k < 0)
def cnd (o:List It) (x:It):Bool:=itR x && aft o x.key
theorem ltK_lt (x y:It):ltK x y = true ↔ x.key < y.key:=by rw [ltK_t,o_lt]
theorem aft_not {o R:List It} (h:Up (o ++ R)) {w:It} (hw:w ∈ o):aft o w.key = false:=by
 rcases snoc_cases o with rfl|⟨o,z,rfl⟩
 · cases hw
 · have h1:=(List.pairwise_append.1 (List.pairwise_append.1 h).1).2.2
   unfold aft
   simp only [List.reverse_append,List.reverse_cons,List.reverse_nil,List.nil_append,List.singleton_append,decide_eq_false_iff_not]
   rw [o_lt]
   rcases List.mem_append.1 hw with e|e
   · have:=(ltK_lt _ _).1 (h1 w e z (by simp));grind
   · rw [List.mem_singleton.1 e];grind
theorem cnd_key {l o R:List It} (hM:mergeK [l] = o ++ R) {x:It} (hx:x ∈ l) (hc:cnd o x = true):∃ w ∈ R,w.key = x.key:=by
 obtain ⟨h1,h2,h3⟩:=mergeK_spec [l]
 rw [hM] at h1 h2 h3
 simp only [List.flatten_cons,List.flatten_nil,List.append_nil] at h2 h3
 unfold cnd at hc
 rw [Bool.and_eq_true] at hc
 have hT:x ∈ l.filter itR:=List.mem_filter.2 ⟨hx,hc.1⟩
 have hl:=look_ne hT rfl
 rw [← h3] at hl
 apply Classical.byContradiction
 intro hn
 apply hl
 refine look_none fun w hw e=>?_
 rcases List.mem_append.1 hw with q|q
 · have:=aft_not h1 q
   rw [e,hc.2] at this
   cases this
 · exact hn ⟨w,q,e⟩
theorem cnd_last {l o:List It} (hM:mergeK [l] = o ++ []) {x:It} (hx:x ∈ l):cnd o x = false:=by
 cases hc:cnd o x with
 | false=>rfl
 | true=>obtain ⟨w,hw,_⟩:=cnd_key hM hx hc;cases hw
theorem cnd_next {l o R:List It} {y:It} (hM:mergeK [l] = o ++ y :: R):y ∈ l ∧ cnd o y = true ∧ (∀ x ∈ l,cnd o x = true → y.key ≤ x.key) ∧ lookK y.key (l.filter itR) = some y:=by
 obtain ⟨h1,h2,h3⟩:=mergeK_spec [l]
 rw [hM] at h1 h2 h3
 simp only [List.flatten_cons,List.flatten_nil,List.append_nil] at h2 h3
 have hy:=List.mem_filter.1 (h2 y (by simp))
 refine ⟨hy.1,?_,fun x hx hc=>?_,?_⟩
 · unfold cnd
   rw [hy.2,Bool.true_and]
   have h4:=(List.pairwise_append.1 h1).2.2
   rcases snoc_cases o with rfl|⟨o,z,rfl⟩
   · rfl
   · have:=(ltK_lt _ _).1 (h4 z (by simp) y (by simp))
     unfold aft
     simp only [List.reverse_append,List.reverse_cons,List.reverse_nil,List.nil_append,List.singleton_append,decide_eq_true_eq]
     rw [o_lt];exact this
 · obtain ⟨w,hw,e⟩:=cnd_key hM hx hc
   rw [← e]
   have h4:=List.pairwise_cons.1 (List.pairwise_append.1 h1).2.1
   rcases List.mem_cons.1 hw with q|q
   · rw [q];grind
   · have:=(ltK_lt _ _).1 (h4.1 w q);grind
 · rw [← h3,look_app]
   have h4:=List.pairwise_cons.1 (List.pairwise_append.1 h1).2.1
   have h5:=(List.pairwise_append.1 h1).2.2
   have e1:lookK y.key o = none:=look_none fun x hx=>ltK_ne (h5 x hx y (by simp))
   have e2:lookK y.key R = none:=look_none fun x hx e=>ltK_ne (h4.1 x hx) e.symm
   rw [show y :: R = [y] ++ R from rfl,look_app,e1,e2,look_one,if_pos ((sbeq _ _).2 rfl)]
   rfl
section
theorem ref_BestK (l:List It) (s:ByteArray) (hl:l.length ≤ 1000000000):Fn Tryz.prog 73 [itsB l,sC s,bC false] (inR (ao (bstK s 0 none l))):=by
 generalize hR:bstK s 0 none l = R at *
 refine fi Tryz.func73 Tryz.ntmps73 ?_
 (refine w0 ?_;(repeat' first|refine W2.mk ?_ ?_|refine W1.mk fun hc=>?_))
 refine AW_loopP (X:=Nat × Option (Nat × It)) (fun x=>x.1 ≤ l.length ∧ bOk l x.2 ∧ bstK s x.1 x.2 (l.drop x.1) = R)
   (fun x=>mkSt [(0,itsB l),(1,sC s),(2,bC false),(7,iC .i64 (ao x.2)),(8,iC .i64 (x.1:Nat))] []) (fun x=>l.length - x.1) (0,none) ⟨Nat.zero_le _,(fun p h=>by cases h),hR⟩ ?_ ?_
 · exact le_auto
 · rintro ⟨k,b⟩ ⟨h1,h2,h3⟩
   simp only at h1 h2 h3 ⊢
   by_cases hlt:k < l.length
   · have hir:=ritem_Right l[k]
     rw [List.drop_eq_getElem_cons hlt,bstK] at h3
     have h4:=bstKF_ok (s:=s) hlt h2
     by_cases hky:l[k].key = s
     · have hkt:l[k].key.toList = s.toList:=by rw [hky]
       rw [if_pos hky] at h3 h4
       unfold bstF at h3 h4
       cases hr:itR l[k] with
       | false=>
         rw [hr] at hir h3 h4
         simp only [Bool.false_eq_true,if_false] at h3 h4
         (have kc1:=hir;refine w0 ?_;(repeat' first|refine W2.mk ?_ ?_|refine W1.mk fun hc=>?_);all_goals clear kc1)
         refine ⟨(k + 1,b),⟨by simp only;omega,h4,h3⟩,by simp only;omega,?_⟩
         exact le_auto
       | true=>
         rw [hr] at hir h3 h4
         simp only [if_true] at h3 h4
         cases b with
         | none=>
           simp only [ao] at h3 h4 ⊢
           (have kc1:=hir;refine w0 ?_;(repeat' first|refine W2.mk ?_ ?_|refine W1.mk fun hc=>?_);all_goals clear kc1)
           refine ⟨(k + 1,some (k,l[k])),⟨by simp only;omega,h4,h3⟩,by simp only;omega,?_⟩
           simp only
           exact le_auto
         | some p=>
           obtain ⟨j,y⟩:=p
           have hjy:=(h2 _ rfl).1
           simp only at hjy
           obtain ⟨hj,hy⟩:=List.getElem?_eq_some_iff.1 hjy
           subst hy
           have hcm:=ref_Beats l[k] l[j]
           unfold beats at hcm
           simp only [ao] at h3 h4 ⊢
           (have kc1:=hir;have kc2:=hcm;refine w0 ?_;(repeat' first|refine W2.mk ?_ ?_|refine W1.mk fun hc=>?_);all_goals clear kc2 kc1)
           · rw [if_pos (by omega)] at h3 h4
             refine ⟨(k + 1,some (k,l[k])),⟨by simp only;omega,h4,h3⟩,by simp only;omega,?_⟩
             simp only
             exact le_auto
           · rw [if_neg (by omega)] at h3 h4
             refine ⟨(k + 1,some (j,l[j])),⟨by simp only;omega,h4,h3⟩,by simp only;omega,?_⟩
             simp only
             exact le_auto
     · have hne:l[k].key.toList ≠ s.toList:=fun h=>hky ((toL_inj _ _).1 h)
       rw [if_neg hky] at h3 h4
       cases hr:itR l[k] with
       | false=>
         rw [hr] at hir
         (have kc1:=hir;refine w0 ?_;(repeat' first|refine W2.mk ?_ ?_|refine W1.mk fun hc=>?_);all_goals clear kc1)
         refine ⟨(k + 1,b),⟨by simp only;omega,h4,h3⟩,by simp only;omega,?_⟩
         exact le_auto
       | true=>
         rw [hr] at hir
         (have kc1:=hir;refine w0 ?_;(repeat' first|refine W2.mk ?_ ?_|refine W1.mk fun hc=>?_);all_goals clear kc1)
         refine ⟨(k + 1,b),⟨by simp only;omega,h4,h3⟩,by simp only;omega,?_⟩
         exact le_auto
   · have hkl:k = l.length:=by omega
     subst hkl
     rw [List.drop_length,bstK] at h3
     subst h3
     (refine w0 ?_;(repeat' first|refine W2.mk ?_ ?_|refine W1.mk fun hc=>?_))
     refine rt1 ?_
     exact rv_int rfl rfl
def oI:Option Nat → Int
 | none=>-1
 | some j=>(j:Nat)
/-- the first of the least keys that come behind -/
structure LeastI (l o:List It) (i:Nat) (b:Option Nat):Prop where
 le:i ≤ l.length
 hs:∀ j,b = some j → ∃ hj:j < l.length,cnd o l[j] = true ∧ ∀ m (hm:m < l.length),m < i → cnd o l[m] = true → l[j].key ≤ l[m].key
 hn:b = none → ∀ m (hm:m < l.length),m < i → cnd o l[m] = false
theorem LeastI.zero (l o:List It):LeastI l o 0 none:=⟨Nat.zero_le _,fun j h=>(by cases h),fun _ m _ h=>absurd h (Nat.not_lt_zero _)⟩
theorem LeastI.skip {l o:List It} {i:Nat} {b:Option Nat} (h:LeastI l o i b) (hi:i < l.length) (hc:cnd o l[i] = false):LeastI l o (i + 1) b:=by
 refine ⟨hi,fun j hj=>?_,fun hb m hm hlt=>?_⟩
 · obtain ⟨a1,a2,a3⟩:=h.hs j hj
   refine ⟨a1,a2,fun m hm hlt hcm=>?_⟩
   rcases Nat.lt_or_ge m i with q|q
   · exact a3 m hm q hcm
   · obtain rfl:m = i:=by omega
     rw [hc] at hcm;cases hcm
 · rcases Nat.lt_or_ge m i with q|q
   · exact h.hn hb m hm q
   · obtain rfl:m = i:=by omega
     exact hc
theorem LeastI.new {l o:List It} {i:Nat} {b:Option Nat} (h:LeastI l o i b) (hi:i < l.length) (hc:cnd o l[i] = true) (hb:∀ j (hj:j < l.length),b = some j → cmpB l[i].key l[j].key < 0):LeastI l o (i + 1) (some i):=by
 refine ⟨hi,fun j hj=>?_,fun hb=>by cases hb⟩
 cases hj
 refine ⟨hi,hc,fun m hm hlt hcm=>?_⟩
 rcases Nat.lt_or_ge m i with q|q
 · cases b with
   | none=>have:=h.hn rfl m hm q;rw [hcm] at this;cases this
   | some j=>
     obtain ⟨a1,a2,a3⟩:=h.hs j rfl
     have h1:=a3 m hm q hcm
     have h2:=(o_lt _ _).1 (hb j a1 rfl)
     grind
 · obtain rfl:m = i:=by omega
   grind
theorem LeastI.keep {l o:List It} {i j:Nat} (h:LeastI l o i (.some j)) (hi:i < l.length) (hj:j < l.length) (hb:¬ cmpB l[i].key l[j].key < 0):LeastI l o (i + 1) (.some j):=by
 refine ⟨hi,fun k hk=>?_,fun hb=>by cases hb⟩
 cases hk
 obtain ⟨a1,a2,a3⟩:=h.hs j rfl
 refine ⟨a1,a2,fun m hm hlt hcm=>?_⟩
 rcases Nat.lt_or_ge m i with q|q
 · exact a3 m hm q hcm
 · obtain rfl:m = i:=by omega
   rw [o_lt] at hb
   grind
theorem ref_Merge (l:List It) (hk:kOk l) (hl:l.length ≤ 1000000000):Fn Tryz.prog 29 [itsB l] (ownI (mergeK [l])):=by
 have hml:(mergeK [l]).length ≤ l.length:=by
   have h1:=mergeK_len [l]
   simp only [List.flatten_cons,List.flatten_nil,List.append_nil] at h1
   have:=List.length_filter_le itR l
   omega
 have hin:=fun z hz=>(mergeK_spec [l]).2.1 z hz
 simp only [List.flatten_cons,List.flatten_nil,List.append_nil,List.mem_filter] at hin
 have hN:∀ (o R:List It) (y:It),mergeK [l] = o ++ y :: R → y ∈ l ∧ cnd o y = true ∧ (∀ x ∈ l,cnd o x = true → y.key ≤ x.key) ∧ lookK y.key (l.filter itR) = some y:=fun o R y=>cnd_next
 have hZ:∀ (o:List It),mergeK [l] = o ++ [] → ∀ x ∈ l,cnd o x = false:=fun o h x hx=>cnd_last h hx
 generalize mergeK [l] = M at *
 refine fi Tryz.func29 Tryz.ntmps29 ?_
 (refine w0 ?_;(repeat' first|refine W2.mk ?_ ?_|refine W1.mk fun hc=>?_))
 refine AW_le (Le_nil 3 600 61 7 rfl rfl) ?_
 refine AW_loopP (X:=List It × List It) (fun x=>M = x.1 ++ x.2)
   (fun x=>mkSt [(0,itsB l),(3,.row 600 0)] [(600,itsW x.1)]) (fun x=>x.2.length) ([],M) rfl ?_ ?_
 · exact le_auto
 · rintro ⟨out,R⟩ hM
   simp only at hM ⊢
   have hol:out.length ≤ l.length:=by have:=congrArg List.length hM;rw [List.length_append] at this;omega
   have hok:kOk out:=fun z hz=>hk z (hin z (by rw [hM];simp [hz])).1
   (refine w0 ?_;(repeat' first|refine W2.mk ?_ ?_|refine W1.mk fun hc=>?_))
   refine AW_loopP (X:=Nat × Option Nat) (fun x=>LeastI l out x.1 x.2)
     (fun x=>mkSt [(0,itsB l),(3,.row 600 0),(4,iC .i64 (oI x.2)),(5,iC .i64 (x.1:Nat))] [(600,itsW out)]) (fun x=>l.length - x.1) (0,none) (LeastI.zero l out) ?_ ?_
   · exact le_auto
   · rintro ⟨i,b⟩ hI
     simp only at hI ⊢
     by_cases hi:i < l.length
     · have hir:=ritem_Right l[i]
       have hki:=hk _ (List.getElem_mem hi)
       have sk:=hI.skip hi
       have nw:=hI.new hi
       have hcn:cnd out l[i] = (itR l[i] && aft out l[i].key):=rfl
       cases hr:itR l[i] with
       | false=>
         rw [hr] at hir
         have hI':=sk (by rw [hcn,hr];rfl)
         clear sk nw hcn hN hZ hin
         (have kc1:=hir;refine w0 ?_;(repeat' first|refine W2.mk ?_ ?_|refine W1.mk fun hc=>?_);all_goals clear kc1)
         refine ⟨(i + 1,b),hI',by simp only;omega,?_⟩
         exact le_auto
       | true=>
         rw [hr] at hir hcn
         rw [Bool.true_and] at hcn
         rcases snoc_cases out with rfl|⟨o,z,rfl⟩
         · have hc1:cnd [] l[i] = true:=hcn
           clear sk hcn hN hZ hin
           cases b with
           | none=>
             have hI':=nw hc1 (fun j hj h=>by cases h)
             clear nw
             simp only [oI]
             (have kc1:=hir;refine w0 ?_;(repeat' first|refine W2.mk ?_ ?_|refine W1.mk fun hc=>?_);all_goals clear kc1)
             refine ⟨(i + 1,some i),hI',by simp only;omega,?_⟩
             exact le_auto
           | some j=>
             obtain ⟨hj,-,-⟩:=hI.hs j rfl
             have hls:=ref_Less l[i].key l[j].key (by omega)
             simp only [oI]
             by_cases hb:cmpB l[i].key l[j].key < 0
             · have hI':=nw hc1 (fun k hk h=>by cases h;exact hb)
               rw [decide_eq_true hb] at hls
               clear nw
               (have kc1:=hir;have kc2:=hls;refine w0 ?_;(repeat' first|refine W2.mk ?_ ?_|refine W1.mk fun hc=>?_);all_goals clear kc2 kc1)
               refine ⟨(i + 1,some i),hI',by simp only;omega,?_⟩
               exact le_auto
             · have hI':=hI.keep hi hj hb
               rw [decide_eq_false hb] at hls
               clear nw
               (have kc1:=hir;have kc2:=hls;refine w0 ?_;(repeat' first|refine W2.mk ?_ ?_|refine W1.mk fun hc=>?_);all_goals clear kc2 kc1)
               refine ⟨(i + 1,some j),hI',by simp only;omega,?_⟩
               exact le_auto
         · have haf:aft (o ++ [z]) l[i].key = decide (cmpB z.key l[i].key < 0):=by
             unfold aft
             simp only [List.reverse_append,List.reverse_cons,List.reverse_nil,List.nil_append,List.singleton_append]
           rw [haf] at hcn
           have hkz:=hok z (by simp)
           have hl1:=ref_Less z.key l[i].key (by omega)
           have hL1:(o ++ [z]).length = o.length + 1:=by simp
           generalize hL:o ++ [z] = L at *
           have HZ:(L.map itP)[((L.length:Int) - 1).toNat]? = some (itP z):=by
             rw [List.getElem?_map,← hL,show (((o ++ [z]).length:Int) - 1).toNat = o.length by rw [hL];omega]
             simp
           clear hN hZ hin haf
           by_cases hzl:cmpB z.key l[i].key < 0
           · rw [decide_eq_true hzl] at hcn hl1
             cases b with
             | none=>
               have hI':=nw hcn (fun j hj h=>by cases h)
               clear nw sk
               simp only [oI]
               (have kc1:=hir;have kc2:=hl1;refine w0 ?_;(repeat' (first|refine W2.mk ?_ ?_|refine W1.mk fun hc=>?_|((first|apply AL_t rfl|apply AL_0 rfl|apply AD_t rfl|apply AD_0 rfl);(focus (first|((apply u_k 5;(focus rfl);exact u_load_r1 ⟨rfl,rfl,rfl⟩ rfl inferInstance rfl rfl rfl HZ rfl))|(apply u_g;(focus rfl);apply op_gyes rfl rfl rfl rfl rfl;first|((apply u_k 5;(focus rfl);exact u_load_r1 ⟨rfl,rfl,rfl⟩ rfl inferInstance rfl rfl rfl HZ rfl)))));refine w0 ?_)));all_goals clear kc2 kc1)
               refine ⟨(i + 1,some i),hI',by simp only;omega,?_⟩
               exact le_auto
             | some j=>
               obtain ⟨hj,-,-⟩:=hI.hs j rfl
               have hls:=ref_Less l[i].key l[j].key (by omega)
               simp only [oI]
               by_cases hb:cmpB l[i].key l[j].key < 0
               · have hI':=nw hcn (fun k hk h=>by cases h;exact hb)
                 rw [decide_eq_true hb] at hls
                 clear nw sk
                 (have kc1:=hir;have kf1:=hl1;have kf2:=hls;refine w0 ?_;(repeat' (first|refine W2.mk ?_ ?_|refine W1.mk fun hc=>?_|((first|apply AL_t rfl|apply AL_0 rfl|apply AD_t rfl|apply AD_0 rfl);(focus (first|((apply u_k 5;(focus rfl);exact u_load_r1 ⟨rfl,rfl,rfl⟩ rfl inferInstance rfl rfl rfl HZ rfl))|(apply u_g;(focus rfl);apply op_gyes rfl rfl rfl rfl rfl;first|((apply u_k 5;(focus rfl);exact u_load_r1 ⟨rfl,rfl,rfl⟩ rfl inferInstance rfl rfl rfl HZ rfl)))));refine w0 ?_)));all_goals clear kf2 kf1 kc1)
                 refine ⟨(i + 1,some i),hI',by simp only;omega,?_⟩
                 exact le_auto
               · have hI':=hI.keep hi hj hb
                 rw [decide_eq_false hb] at hls
                 clear nw sk
                 (have kc1:=hir;have kf1:=hl1;have kf2:=hls;refine w0 ?_;(repeat' (first|refine W2.mk ?_ ?_|refine W1.mk fun hc=>?_|((first|apply AL_t rfl|apply AL_0 rfl|apply AD_t rfl|apply AD_0 rfl);(focus (first|((apply u_k 5;(focus rfl);exact u_load_r1 ⟨rfl,rfl,rfl⟩ rfl inferInstance rfl rfl rfl HZ rfl))|(apply u_g;(focus rfl);apply op_gyes rfl rfl rfl rfl rfl;first|((apply u_k 5;(focus rfl);exact u_load_r1 ⟨rfl,rfl,rfl⟩ rfl inferInstance rfl rfl rfl HZ rfl)))));refine w0 ?_)));all_goals clear kf2 kf1 kc1)
                 refine ⟨(i + 1,some j),hI',by simp only;omega,?_⟩
                 exact le_auto
           · rw [decide_eq_false hzl] at hcn hl1
             have hI':=sk hcn
             clear nw sk
             (have kc1:=hir;have kc2:=hl1;refine w0 ?_;(repeat' (first|refine W2.mk ?_ ?_|refine W1.mk fun hc=>?_|((first|apply AL_t rfl|apply AL_0 rfl|apply AD_t rfl|apply AD_0 rfl);(focus (first|((apply u_k 5;(focus rfl);exact u_load_r1 ⟨rfl,rfl,rfl⟩ rfl inferInstance rfl rfl rfl HZ rfl))|(apply u_g;(focus rfl);apply op_gyes rfl rfl rfl rfl rfl;first|((apply u_k 5;(focus rfl);exact u_load_r1 ⟨rfl,rfl,rfl⟩ rfl inferInstance rfl rfl rfl HZ rfl)))));refine w0 ?_)));all_goals clear kc2 kc1)
             refine ⟨(i + 1,b),hI',by simp only;omega,?_⟩
             exact le_auto
     · have hil:i = l.length:=by have:=hI.le;omega
       subst hil
       cases b with
       | none=>
         have hRn:R = []:=by
           cases R with
           | nil=>rfl
           | cons y R=>
             obtain ⟨c1,c2,-,-⟩:=hN out R y hM
             obtain ⟨m,hm,rfl⟩:=List.getElem_of_mem c1
             have:=hI.hn rfl m hm hm
             rw [c2] at this;cases this
         subst hRn
         rw [List.append_nil] at hM
         clear hN hZ hin
         simp only [oI]
         (refine w0 ?_;(repeat' first|refine W2.mk ?_ ?_|refine W1.mk fun hc=>?_))
         refine rt1 ?_
         exact rv_ownM rfl rfl rfl (by rw [hM])
       | some j=>
         obtain ⟨hj,d1,d2⟩:=hI.hs j rfl
         cases R with
         | nil=>
           have:=hZ out hM l[j] (List.getElem_mem hj)
           rw [d1] at this;cases this
         | cons y R=>
           obtain ⟨c1,c2,c3,c4⟩:=hN out R y hM
           obtain ⟨m,hm,hmy⟩:=List.getElem_of_mem c1
           have e1:=d2 m hm hm (by rw [hmy];exact c2)
           rw [hmy] at e1
           have e2:=c3 l[j] (List.getElem_mem hj) d1
           have e3:l[j].key = y.key:=by grind
           have hB:Fn Tryz.prog 73 [itsB l,sC l[j].key,bC false] (inR (ao (bstK y.key 0 none l))):=by rw [← e3];exact ref_BestK l l[j].key hl
           have hL:=bstK_look y.key l 0 none
           have hO:=bstK_ok (s:=y.key) l 0 none rfl (fun p h=>by cases h)
           rw [c4] at hL
           generalize bstK y.key 0 none l = W at *
           cases W with
           | none=>cases hL
           | some p=>
             obtain ⟨q,v⟩:=p
             have hv:v = y:=by simpa [comb] using hL
             subst hv
             obtain ⟨hq,hqy⟩:=List.getElem?_eq_some_iff.1 (hO _ rfl).1
             simp only at hq hqy
             simp only [ao] at hB
             have hol':out.length ≤ 1000000000:=by omega
             clear hN hZ hin c1 c2 c3 c4 hO hL d1 d2 e1 e2 hI
             simp only [oI]
             (have kc1:=hB;refine w0 ?_;(repeat' first|refine W2.mk ?_ ?_|refine W1.mk fun hc=>?_);all_goals clear kc1)
             refine ⟨(out ++ [v],R),by simp only;rw [hM];simp,by simp,Le_trans (Le_mv 600 601) (Le_trans (Le_mv 601 600) ?_)⟩
             subst hqy
             exact le_auto
end
/-- what comes of a taking whose parts are known -/
def tkR (s:Sta) (IN M:List It) (J:List Pc) (mo:Int) (ap:Bool) (f g:It → Bool):Sta × Int:=
 if IN.any (fun x=>!f x && !g x) then ({},2)
 else if mo > s.cnt then ({},2)
 else if ap = false then ({},2)
 else if M.length > 4096 then ({},32)
 else (⟨s.id,s.flt,M,J,s.cnt⟩,0)
abbrev stZ:Blk:=.box 26 [iC .i64 0,.per (rawP (.slice none 0 0)),.per (rawP (.slice none 0 0)),.per (rawP (.slice none 0 0)),iC .i64 0]
theorem anyP_snoc {l:List It} {p:It → Bool} {i:Nat} (hi:i < l.length) (h:(l.take i).any p = false):(l.take (i + 1)).any p = p l[i]:=by
 rw [take_snoc' l i hi,List.any_append,h];simp
theorem anyP_hit {l:List It} {p:It → Bool} {i:Nat} (hi:i < l.length) (h:p l[i] = true):l.any p = true:=List.any_eq_true.2 ⟨_,List.getElem_mem hi,h⟩
section
end
end Go.Proofs.YtembiemaiacdfaaGreat
