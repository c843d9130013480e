/- Texts joined: DeZ KkR DeW MrR PlC. -/
import Derived.Test.YtembiemaiacdfaaGreatJ20
import Derived.Test.YtembiemaiacdfaaGreatJ05
import Derived.Test.YtembiemaiacdfaaGreatJ37
import Derived.Test.YtembiemaiacdfaaGreatJ22
import Derived.Test.YtembiemaiacdfaaGreatJ12
import Derived.Test.YtembiemaiacdfaaGreatJ30
import Derived.Test.YtembiemaiacdfaaGreatJ38
import Derived.Test.YtembiemaiacdfaaGreatJ34
set_option maxRecDepth 10000
set_option maxHeartbeats 8000000
namespace Go.Proofs.YtembiemaiacdfaaGreat
section
end
section
theorem xx (a b:List Pc) (ha:b0 a) (hb:b0 b) (hab:b0 (a ++ b)) (la:a.length ≤ 500000) (lb:b.length ≤ 500000):Fn Tryz.prog 74 [bS a,bS b] (k5 (ki (a ++ b))):=by
 have h:=G9 1 a b (fh (a ++ b)) la lb (fun s hs=>CF a b s ha hb (AI hs)) (fun s _=>by
   have:=uc hab s
   exact cD.sz ⟨by omega,by omega⟩)
 rw [show kB (fh (a ++ b)) (fN (a ++ b)) = ki (a ++ b) from rfl] at h
 generalize ki (a ++ b) = R at *
 refine fi Tryz.func74 Tryz.ntmps74 ?_
 (have kc1:=h;refine w0 ?_;(repeat' first|refine W2.mk ?_ ?_|refine W1.mk fun hc=>?_);all_goals clear kc1)
 refine aQ ?_
 exact cv rfl rfl rfl
end
def rt (s:ByteArray):Nat → Option (Nat × It) → List It → Option (Nat × It)
 | _,b,[]=>b
 | i,b,x :: r=>rt s (i + 1) (if x.key = s then ui b i x else b) r
theorem C6 {s:ByteArray} {b:Option (Nat × It)} {i:Nat} {x:It}:(if x.key = s then ui b i x else b).map Prod.snd = jI (b.map Prod.snd) (bN s ([x].filter itR)):=by
 by_cases hr:itR x = true
 · rw [List.filter_cons_of_pos hr,List.filter_nil,eW]
   by_cases hk:x.key = s
   · rw [if_pos hk,if_pos ((gK _ _).2 hk)]
     unfold ui
     rw [if_pos hr]
     cases b with
     | none=>rfl
     | some p=>
       simp only [Option.map_some,jI]
       split <;> rfl
   · rw [if_neg hk,if_neg (by rw [gK];exact hk),f7]
 · rw [List.filter_cons_of_neg hr,List.filter_nil]
   have:ui b i x = b:=by unfold ui;rw [if_neg hr]
   rw [this]
   have hn:bN s ([]:List It) = none:=rfl
   rw [hn,f7]
   split <;> rfl
theorem C7 (s:ByteArray):∀ (r:List It) (i:Nat) (b:Option (Nat × It)),(rt s i b r).map Prod.snd = jI (b.map Prod.snd) (bN s (r.filter itR)):=by
 intro r
 induction r with
 | nil=>intro i b;exact (f7 _).symm
 | cons x r ih=>
   intro i b
   rw [rt,ih,C6,qF,← cW,← List.filter_append,List.singleton_append]
theorem xy {l:List It} {s:ByteArray} {b:Option (Nat × It)} {i:Nat} (hi:i < l.length) (h:KS l b):KS l (if l[i].key = s then ui b i l[i] else b):=by
 split
 · exact Ja hi h
 · exact h
theorem JL {l:List It} {s:ByteArray}:∀ (r:List It) (i:Nat) (b:Option (Nat × It)),l.drop i = r → KS l b → KS l (rt s i b r):=by
 intro r
 induction r with
 | nil=>intro i b _ h;exact h
 | cons x r ih=>
   intro i b hd h
   have hi:i < l.length:=by
     rcases Nat.lt_or_ge i l.length with q|q
     · exact q
     · rw [List.drop_eq_nil_of_le q] at hd;cases hd
   rw [List.drop_eq_getElem_cons hi] at hd
   cases hd
   exact ih (i + 1) _ rfl (xy hi h)
theorem C8 {a:It} {b:Option It}:jI (some a) b ≠ none:=by
 cases b with
 | none=>simp [jI]
 | some b=>simp only [jI];split <;> simp
theorem JM {k:ByteArray} {l:List It} {x:It} (hx:x ∈ l) (hk:x.key = k):bN k l ≠ none:=by
 unfold bN
 have hm:x ∈ l.filter fun x=>x.key == k:=List.mem_filter.2 ⟨hx,(gK _ _).2 hk⟩
 cases hf:l.filter (fun x=>x.key == k) with
 | nil=>rw [hf] at hm;cases hm
 | cons y r=>
   rw [List.foldl_cons,wD]
   exact C8
def Li (o:List It) (k:ByteArray):Bool:=match o.reverse with
 | []=>true
 | z :: _=>decide (bG z.key k < 0)
def xz (o:List It) (x:It):Bool:=itR x && Li o x.key
theorem zM (x y:It):ltK x y = true ↔ x.key < y.key:=by rw [gR,eM]
theorem JN {o R:List It} (h:Up (o ++ R)) {w:It} (hw:w ∈ o):Li o w.key = false:=by
 rcases cP o with rfl|⟨o,z,rfl⟩
 · cases hw
 · have h1:=(List.pairwise_append.1 (List.pairwise_append.1 h).1).2.2
   unfold Li
   simp only [List.reverse_append,List.reverse_cons,List.reverse_nil,List.nil_append,List.singleton_append,decide_eq_false_iff_not]
   rw [eM]
   rcases List.mem_append.1 hw with e|e
   · have:=(zM _ _).1 (h1 w e z (by simp));grind
   · rw [List.mem_singleton.1 e];grind
theorem Bb {l o R:List It} (hM:aV [l] = o ++ R) {x:It} (hx:x ∈ l) (hc:xz o x = true):∃ w ∈ R,w.key = x.key:=by
 obtain ⟨h1,h2,h3⟩:=bw [l]
 rw [hM] at h1 h2 h3
 simp only [List.flatten_cons,List.flatten_nil,List.append_nil] at h2 h3
 unfold xz at hc
 rw [Bool.and_eq_true] at hc
 have hT:x ∈ l.filter itR:=List.mem_filter.2 ⟨hx,hc.1⟩
 have hl:=JM hT rfl
 rw [← h3] at hl
 apply Classical.byContradiction
 intro hn
 apply hl
 refine ig fun w hw e=>?_
 rcases List.mem_append.1 hw with q|q
 · have:=JN h1 q
   rw [e,hc.2] at this
   cases this
 · exact hn ⟨w,q,e⟩
theorem Ha {l o:List It} (hM:aV [l] = o ++ []) {x:It} (hx:x ∈ l):xz o x = false:=by
 cases hc:xz o x with
 | false=>rfl
 | true=>obtain ⟨w,hw,_⟩:=Bb hM hx hc;cases hw
theorem Hb {l o R:List It} {y:It} (hM:aV [l] = o ++ y :: R):y ∈ l ∧ xz o y = true ∧ (∀ x ∈ l,xz o x = true → y.key ≤ x.key) ∧ bN y.key (l.filter itR) = some y:=by
 obtain ⟨h1,h2,h3⟩:=bw [l]
 rw [hM] at h1 h2 h3
 simp only [List.flatten_cons,List.flatten_nil,List.append_nil] at h2 h3
 have hy:=List.mem_filter.1 (h2 y (by simp))
 refine ⟨hy.1,?_,fun x hx hc=>?_,?_⟩
 · unfold xz
   rw [hy.2,Bool.true_and]
   have h4:=(List.pairwise_append.1 h1).2.2
   rcases cP o with rfl|⟨o,z,rfl⟩
   · rfl
   · have:=(zM _ _).1 (h4 z (by simp) y (by simp))
     unfold Li
     simp only [List.reverse_append,List.reverse_cons,List.reverse_nil,List.nil_append,List.singleton_append,decide_eq_true_eq]
     rw [eM];exact this
 · obtain ⟨w,hw,e⟩:=Bb hM hx hc
   rw [← e]
   have h4:=List.pairwise_cons.1 (List.pairwise_append.1 h1).2.1
   rcases List.mem_cons.1 hw with q|q
   · rw [q];grind
   · have:=(zM _ _).1 (h4.1 w q);grind
 · rw [← h3,cW]
   have h4:=List.pairwise_cons.1 (List.pairwise_append.1 h1).2.1
   have h5:=(List.pairwise_append.1 h1).2.2
   have e1:bN y.key o = none:=ig fun x hx=>uj (h5 x hx y (by simp))
   have e2:bN y.key R = none:=ig fun x hx e=>uj (h4.1 x hx) e.symm
   rw [show y :: R = [y] ++ R from rfl,cW,e1,e2,eW,if_pos ((gK _ _).2 rfl)]
   rfl
section
theorem C9 (l:List It) (s:ByteArray) (hl:l.length ≤ 1000000000):Fn Tryz.prog 73 [di l,sC s,bC false] (fL (ao (rt s 0 none l))):=by
 generalize hR:rt s 0 none l = R at *
 refine fi Tryz.func73 Tryz.ntmps73 ?_
 (refine w0 ?_;(repeat' first|refine W2.mk ?_ ?_|refine W1.mk fun hc=>?_))
 refine ah (X:=Nat × Option (Nat × It)) (fun x=>x.1 ≤ l.length ∧ KS l x.2 ∧ rt s x.1 x.2 (l.drop x.1) = R)
   (fun x=>aN [(0,di l),(1,sC s),(2,bC false),(7,iC .i64 (ao x.2)),(8,iC .i64 (x.1:Nat))] []) (fun x=>l.length - x.1) (0,none) ⟨Nat.zero_le _,(fun p h=>by cases h),hR⟩ ?_ ?_
 · exact ab
 · rintro ⟨k,b⟩ ⟨h1,h2,h3⟩
   simp only at h1 h2 h3 ⊢
   by_cases hlt:k < l.length
   · have hir:=ja l[k]
     rw [List.drop_eq_getElem_cons hlt,rt] at h3
     have h4:=xy (s:=s) hlt h2
     by_cases hky:l[k].key = s
     · have hkt:l[k].key.toList = s.toList:=by rw [hky]
       rw [if_pos hky] at h3 h4
       unfold ui at h3 h4
       cases hr:itR l[k] with
       | false=>
         rw [hr] at hir h3 h4
         simp only [Bool.false_eq_true,if_false] at h3 h4
         (have kc1:=hir;refine w0 ?_;(repeat' first|refine W2.mk ?_ ?_|refine W1.mk fun hc=>?_);all_goals clear kc1)
         refine ⟨(k + 1,b),⟨by simp only;omega,h4,h3⟩,by simp only;omega,?_⟩
         exact ab
       | true=>
         rw [hr] at hir h3 h4
         simp only [if_true] at h3 h4
         cases b with
         | none=>
           simp only [ao] at h3 h4 ⊢
           (have kc1:=hir;refine w0 ?_;(repeat' first|refine W2.mk ?_ ?_|refine W1.mk fun hc=>?_);all_goals clear kc1)
           refine ⟨(k + 1,some (k,l[k])),⟨by simp only;omega,h4,h3⟩,by simp only;omega,?_⟩
           simp only
           exact ab
         | some p=>
           obtain ⟨j,y⟩:=p
           have hjy:=(h2 _ rfl).1
           simp only at hjy
           obtain ⟨hj,hy⟩:=List.getElem?_eq_some_iff.1 hjy
           subst hy
           have hcm:=se l[k] l[j]
           unfold vS at hcm
           simp only [ao] at h3 h4 ⊢
           (have kc1:=hir;have kc2:=hcm;refine w0 ?_;(repeat' first|refine W2.mk ?_ ?_|refine W1.mk fun hc=>?_);all_goals clear kc2 kc1)
           · rw [if_pos (by omega)] at h3 h4
             refine ⟨(k + 1,some (k,l[k])),⟨by simp only;omega,h4,h3⟩,by simp only;omega,?_⟩
             simp only
             exact ab
           · rw [if_neg (by omega)] at h3 h4
             refine ⟨(k + 1,some (j,l[j])),⟨by simp only;omega,h4,h3⟩,by simp only;omega,?_⟩
             simp only
             exact ab
     · have hne:l[k].key.toList ≠ s.toList:=fun h=>hky ((lQ _ _).1 h)
       rw [if_neg hky] at h3 h4
       cases hr:itR l[k] with
       | false=>
         rw [hr] at hir
         (have kc1:=hir;refine w0 ?_;(repeat' first|refine W2.mk ?_ ?_|refine W1.mk fun hc=>?_);all_goals clear kc1)
         refine ⟨(k + 1,b),⟨by simp only;omega,h4,h3⟩,by simp only;omega,?_⟩
         exact ab
       | true=>
         rw [hr] at hir
         (have kc1:=hir;refine w0 ?_;(repeat' first|refine W2.mk ?_ ?_|refine W1.mk fun hc=>?_);all_goals clear kc1)
         refine ⟨(k + 1,b),⟨by simp only;omega,h4,h3⟩,by simp only;omega,?_⟩
         exact ab
   · have hkl:k = l.length:=by omega
     subst hkl
     rw [List.drop_length,rt] at h3
     subst h3
     (refine w0 ?_;(repeat' first|refine W2.mk ?_ ?_|refine W1.mk fun hc=>?_))
     refine aQ ?_
     exact aA rfl rfl
def oI:Option Nat → Int
 | none=>-1
 | some j=>(j:Nat)
structure f8 (l o:List It) (i:Nat) (b:Option Nat):Prop where
 le:i ≤ l.length
 hs:∀ j,b = some j → ∃ hj:j < l.length,xz o l[j] = true ∧ ∀ m (hm:m < l.length),m < i → xz o l[m] = true → l[j].key ≤ l[m].key
 hn:b = none → ∀ m (hm:m < l.length),m < i → xz o l[m] = false
theorem f8.zero (l o:List It):f8 l o 0 none:=⟨Nat.zero_le _,fun j h=>(by cases h),fun _ m _ h=>absurd h (Nat.not_lt_zero _)⟩
theorem f8.skip {l o:List It} {i:Nat} {b:Option Nat} (h:f8 l o i b) (hi:i < l.length) (hc:xz o l[i] = false):f8 l o (i + 1) b:=by
 refine ⟨hi,fun j hj=>?_,fun hb m hm hlt=>?_⟩
 · obtain ⟨a1,a2,a3⟩:=h.hs j hj
   refine ⟨a1,a2,fun m hm hlt hcm=>?_⟩
   rcases Nat.lt_or_ge m i with q|q
   · exact a3 m hm q hcm
   · obtain rfl:m = i:=by omega
     rw [hc] at hcm;cases hcm
 · rcases Nat.lt_or_ge m i with q|q
   · exact h.hn hb m hm q
   · obtain rfl:m = i:=by omega
     exact hc
theorem f8.new {l o:List It} {i:Nat} {b:Option Nat} (h:f8 l o i b) (hi:i < l.length) (hc:xz o l[i] = true) (hb:∀ j (hj:j < l.length),b = some j → bG l[i].key l[j].key < 0):f8 l o (i + 1) (some i):=by
 refine ⟨hi,fun j hj=>?_,fun hb=>by cases hb⟩
 cases hj
 refine ⟨hi,hc,fun m hm hlt hcm=>?_⟩
 rcases Nat.lt_or_ge m i with q|q
 · cases b with
   | none=>have:=h.hn rfl m hm q;rw [hcm] at this;cases this
   | some j=>
     obtain ⟨a1,a2,a3⟩:=h.hs j rfl
     have h1:=a3 m hm q hcm
     have h2:=(eM _ _).1 (hb j a1 rfl)
     grind
 · obtain rfl:m = i:=by omega
   grind
theorem f8.keep {l o:List It} {i j:Nat} (h:f8 l o i (.some j)) (hi:i < l.length) (hj:j < l.length) (hb:¬ bG l[i].key l[j].key < 0):f8 l o (i + 1) (.some j):=by
 refine ⟨hi,fun k hk=>?_,fun hb=>by cases hb⟩
 cases hk
 obtain ⟨a1,a2,a3⟩:=h.hs j rfl
 refine ⟨a1,a2,fun m hm hlt hcm=>?_⟩
 rcases Nat.lt_or_ge m i with q|q
 · exact a3 m hm q hcm
 · obtain rfl:m = i:=by omega
   rw [eM] at hb
   grind
theorem s8 (l:List It) (hk:jG l) (hl:l.length ≤ 1000000000):Fn Tryz.prog 29 [di l] (wC (aV [l])):=by
 have hml:(aV [l]).length ≤ l.length:=by
   have h1:=qG [l]
   simp only [List.flatten_cons,List.flatten_nil,List.append_nil] at h1
   have:=List.length_filter_le itR l
   omega
 have hin:=fun z hz=>(bw [l]).2.1 z hz
 simp only [List.flatten_cons,List.flatten_nil,List.append_nil,List.mem_filter] at hin
 have hN:∀ (o R:List It) (y:It),aV [l] = o ++ y :: R → y ∈ l ∧ xz o y = true ∧ (∀ x ∈ l,xz o x = true → y.key ≤ x.key) ∧ bN y.key (l.filter itR) = some y:=fun o R y=>Hb
 have hZ:∀ (o:List It),aV [l] = o ++ [] → ∀ x ∈ l,xz o x = false:=fun o h x hx=>Ha h hx
 generalize aV [l] = M at *
 refine fi Tryz.func29 Tryz.ntmps29 ?_
 (refine w0 ?_;(repeat' first|refine W2.mk ?_ ?_|refine W1.mk fun hc=>?_))
 refine ck (bz 3 600 61 7 rfl rfl) ?_
 refine ah (X:=List It × List It) (fun x=>M = x.1 ++ x.2)
   (fun x=>aN [(0,di l),(3,.row 600 0)] [(600,dR x.1)]) (fun x=>x.2.length) ([],M) rfl ?_ ?_
 · exact ab
 · rintro ⟨out,R⟩ hM
   simp only at hM ⊢
   have hol:out.length ≤ l.length:=by have:=congrArg List.length hM;rw [List.length_append] at this;omega
   have hok:jG out:=fun z hz=>hk z (hin z (by rw [hM];simp [hz])).1
   (refine w0 ?_;(repeat' first|refine W2.mk ?_ ?_|refine W1.mk fun hc=>?_))
   refine ah (X:=Nat × Option Nat) (fun x=>f8 l out x.1 x.2)
     (fun x=>aN [(0,di l),(3,.row 600 0),(4,iC .i64 (oI x.2)),(5,iC .i64 (x.1:Nat))] [(600,dR out)]) (fun x=>l.length - x.1) (0,none) (f8.zero l out) ?_ ?_
   · exact ab
   · rintro ⟨i,b⟩ hI
     simp only at hI ⊢
     by_cases hi:i < l.length
     · have hir:=ja l[i]
       have hki:=hk _ (List.getElem_mem hi)
       have sk:=hI.skip hi
       have nw:=hI.new hi
       have hcn:xz out l[i] = (itR l[i] && Li out l[i].key):=rfl
       cases hr:itR l[i] with
       | false=>
         rw [hr] at hir
         have hI':=sk (by rw [hcn,hr];rfl)
         clear sk nw hcn hN hZ hin
         (have kc1:=hir;refine w0 ?_;(repeat' first|refine W2.mk ?_ ?_|refine W1.mk fun hc=>?_);all_goals clear kc1)
         refine ⟨(i + 1,b),hI',by simp only;omega,?_⟩
         exact ab
       | true=>
         rw [hr] at hir hcn
         rw [Bool.true_and] at hcn
         rcases cP out with rfl|⟨o,z,rfl⟩
         · have hc1:xz [] l[i] = true:=hcn
           clear sk hcn hN hZ hin
           cases b with
           | none=>
             have hI':=nw hc1 (fun j hj h=>by cases h)
             clear nw
             simp only [oI]
             (have kc1:=hir;refine w0 ?_;(repeat' first|refine W2.mk ?_ ?_|refine W1.mk fun hc=>?_);all_goals clear kc1)
             refine ⟨(i + 1,some i),hI',by simp only;omega,?_⟩
             exact ab
           | some j=>
             obtain ⟨hj,-,-⟩:=hI.hs j rfl
             have hls:=eR l[i].key l[j].key (by omega)
             simp only [oI]
             by_cases hb:bG l[i].key l[j].key < 0
             · have hI':=nw hc1 (fun k hk h=>by cases h;exact hb)
               rw [decide_eq_true hb] at hls
               clear nw
               (have kc1:=hir;have kc2:=hls;refine w0 ?_;(repeat' first|refine W2.mk ?_ ?_|refine W1.mk fun hc=>?_);all_goals clear kc2 kc1)
               refine ⟨(i + 1,some i),hI',by simp only;omega,?_⟩
               exact ab
             · have hI':=hI.keep hi hj hb
               rw [decide_eq_false hb] at hls
               clear nw
               (have kc1:=hir;have kc2:=hls;refine w0 ?_;(repeat' first|refine W2.mk ?_ ?_|refine W1.mk fun hc=>?_);all_goals clear kc2 kc1)
               refine ⟨(i + 1,some j),hI',by simp only;omega,?_⟩
               exact ab
         · have haf:Li (o ++ [z]) l[i].key = decide (bG z.key l[i].key < 0):=by
             unfold Li
             simp only [List.reverse_append,List.reverse_cons,List.reverse_nil,List.nil_append,List.singleton_append]
           rw [haf] at hcn
           have hkz:=hok z (by simp)
           have hl1:=eR z.key l[i].key (by omega)
           have hL1:(o ++ [z]).length = o.length + 1:=by simp
           generalize hL:o ++ [z] = L at *
           have HZ:(L.map itP)[((L.length:Int) - 1).toNat]? = some (itP z):=by
             rw [List.getElem?_map,← hL,show (((o ++ [z]).length:Int) - 1).toNat = o.length by rw [hL];omega]
             simp
           clear hN hZ hin haf
           by_cases hzl:bG z.key l[i].key < 0
           · rw [decide_eq_true hzl] at hcn hl1
             cases b with
             | none=>
               have hI':=nw hcn (fun j hj h=>by cases h)
               clear nw sk
               simp only [oI]
               (have kc1:=hir;have kc2:=hl1;refine w0 ?_;(repeat' (first|refine W2.mk ?_ ?_|refine W1.mk fun hc=>?_|((first|apply aD rfl|apply aF rfl|apply aG rfl|apply aH rfl);(focus (first|((apply az 5;(focus rfl);exact aw ⟨rfl,rfl,rfl⟩ rfl inferInstance rfl rfl rfl HZ rfl))|(apply bx;(focus rfl);apply ag rfl rfl rfl rfl rfl;first|((apply az 5;(focus rfl);exact aw ⟨rfl,rfl,rfl⟩ rfl inferInstance rfl rfl rfl HZ rfl)))));refine w0 ?_)));all_goals clear kc2 kc1)
               refine ⟨(i + 1,some i),hI',by simp only;omega,?_⟩
               exact ab
             | some j=>
               obtain ⟨hj,-,-⟩:=hI.hs j rfl
               have hls:=eR l[i].key l[j].key (by omega)
               simp only [oI]
               by_cases hb:bG l[i].key l[j].key < 0
               · have hI':=nw hcn (fun k hk h=>by cases h;exact hb)
                 rw [decide_eq_true hb] at hls
                 clear nw sk
                 (have kc1:=hir;have kf1:=hl1;have kf2:=hls;refine w0 ?_;(repeat' (first|refine W2.mk ?_ ?_|refine W1.mk fun hc=>?_|((first|apply aD rfl|apply aF rfl|apply aG rfl|apply aH rfl);(focus (first|((apply az 5;(focus rfl);exact aw ⟨rfl,rfl,rfl⟩ rfl inferInstance rfl rfl rfl HZ rfl))|(apply bx;(focus rfl);apply ag rfl rfl rfl rfl rfl;first|((apply az 5;(focus rfl);exact aw ⟨rfl,rfl,rfl⟩ rfl inferInstance rfl rfl rfl HZ rfl)))));refine w0 ?_)));all_goals clear kf2 kf1 kc1)
                 refine ⟨(i + 1,some i),hI',by simp only;omega,?_⟩
                 exact ab
               · have hI':=hI.keep hi hj hb
                 rw [decide_eq_false hb] at hls
                 clear nw sk
                 (have kc1:=hir;have kf1:=hl1;have kf2:=hls;refine w0 ?_;(repeat' (first|refine W2.mk ?_ ?_|refine W1.mk fun hc=>?_|((first|apply aD rfl|apply aF rfl|apply aG rfl|apply aH rfl);(focus (first|((apply az 5;(focus rfl);exact aw ⟨rfl,rfl,rfl⟩ rfl inferInstance rfl rfl rfl HZ rfl))|(apply bx;(focus rfl);apply ag rfl rfl rfl rfl rfl;first|((apply az 5;(focus rfl);exact aw ⟨rfl,rfl,rfl⟩ rfl inferInstance rfl rfl rfl HZ rfl)))));refine w0 ?_)));all_goals clear kf2 kf1 kc1)
                 refine ⟨(i + 1,some j),hI',by simp only;omega,?_⟩
                 exact ab
           · rw [decide_eq_false hzl] at hcn hl1
             have hI':=sk hcn
             clear nw sk
             (have kc1:=hir;have kc2:=hl1;refine w0 ?_;(repeat' (first|refine W2.mk ?_ ?_|refine W1.mk fun hc=>?_|((first|apply aD rfl|apply aF rfl|apply aG rfl|apply aH rfl);(focus (first|((apply az 5;(focus rfl);exact aw ⟨rfl,rfl,rfl⟩ rfl inferInstance rfl rfl rfl HZ rfl))|(apply bx;(focus rfl);apply ag rfl rfl rfl rfl rfl;first|((apply az 5;(focus rfl);exact aw ⟨rfl,rfl,rfl⟩ rfl inferInstance rfl rfl rfl HZ rfl)))));refine w0 ?_)));all_goals clear kc2 kc1)
             refine ⟨(i + 1,b),hI',by simp only;omega,?_⟩
             exact ab
     · have hil:i = l.length:=by have:=hI.le;omega
       subst hil
       cases b with
       | none=>
         have hRn:R = []:=by
           cases R with
           | nil=>rfl
           | cons y R=>
             obtain ⟨c1,c2,-,-⟩:=hN out R y hM
             obtain ⟨m,hm,rfl⟩:=List.getElem_of_mem c1
             have:=hI.hn rfl m hm hm
             rw [c2] at this;cases this
         subst hRn
         rw [List.append_nil] at hM
         clear hN hZ hin
         simp only [oI]
         (refine w0 ?_;(repeat' first|refine W2.mk ?_ ?_|refine W1.mk fun hc=>?_))
         refine aQ ?_
         exact dq rfl rfl rfl (by rw [hM])
       | some j=>
         obtain ⟨hj,d1,d2⟩:=hI.hs j rfl
         cases R with
         | nil=>
           have:=hZ out hM l[j] (List.getElem_mem hj)
           rw [d1] at this;cases this
         | cons y R=>
           obtain ⟨c1,c2,c3,c4⟩:=hN out R y hM
           obtain ⟨m,hm,hmy⟩:=List.getElem_of_mem c1
           have e1:=d2 m hm hm (by rw [hmy];exact c2)
           rw [hmy] at e1
           have e2:=c3 l[j] (List.getElem_mem hj) d1
           have e3:l[j].key = y.key:=by grind
           have hB:Fn Tryz.prog 73 [di l,sC l[j].key,bC false] (fL (ao (rt y.key 0 none l))):=by rw [← e3];exact C9 l l[j].key hl
           have hL:=C7 y.key l 0 none
           have hO:=JL (s:=y.key) l 0 none rfl (fun p h=>by cases h)
           rw [c4] at hL
           generalize rt y.key 0 none l = W at *
           cases W with
           | none=>cases hL
           | some p=>
             obtain ⟨q,v⟩:=p
             have hv:v = y:=by simpa [jI] using hL
             subst hv
             obtain ⟨hq,hqy⟩:=List.getElem?_eq_some_iff.1 (hO _ rfl).1
             simp only at hq hqy
             simp only [ao] at hB
             have hol':out.length ≤ 1000000000:=by omega
             clear hN hZ hin c1 c2 c3 c4 hO hL d1 d2 e1 e2 hI
             simp only [oI]
             (have kc1:=hB;refine w0 ?_;(repeat' first|refine W2.mk ?_ ?_|refine W1.mk fun hc=>?_);all_goals clear kc1)
             refine ⟨(out ++ [v],R),by simp only;rw [hM];simp,by simp,ak (aM 600 601) (ak (aM 601 600) ?_)⟩
             subst hqy
             exact ab
end
def Ke (s:Sta) (IN M:List It) (J:List Pc) (mo:Int) (ap:Bool) (f g:It → Bool):Sta × Int:=
 if IN.any (fun x=>!f x && !g x) then ({},2)
 else if mo > s.cnt then ({},2)
 else if ap = false then ({},2)
 else if M.length > 4096 then ({},32)
 else (⟨s.id,s.flt,M,J,s.cnt⟩,0)
abbrev MT:Blk:=.box 26 [iC .i64 0,.per (aq (.slice none 0 0)),.per (aq (.slice none 0 0)),.per (aq (.slice none 0 0)),iC .i64 0]
theorem oH {l:List It} {p:It → Bool} {i:Nat} (hi:i < l.length) (h:(l.take i).any p = false):(l.take (i + 1)).any p = p l[i]:=by
 rw [aJ l i hi,List.any_append,h];simp
theorem ru {l:List It} {p:It → Bool} {i:Nat} (hi:i < l.length) (h:p l[i] = true):l.any p = true:=List.any_eq_true.2 ⟨_,List.getElem_mem hi,h⟩
section
theorem Hc (s:Sta) (l IN M:List It) (k OW J:List Pc) (mo:Int) (ap:Bool) (f g:It → Bool) (hl:IN.length ≤ 1000000)
   (a1:Fn Tryz.prog 64 [cY s] (bO true)) (a2:Fn Tryz.prog 65 [di l] (bO true)) (a3:Fn Tryz.prog 66 [bS k] (bO true))
   (a4:Fn Tryz.prog 53 [di l,dg s.flt] (.per (cG IN))) (a5:Fn Tryz.prog 50 [gM k,.per (eB s.flt)] (.per (ff OW)))
   (a6:∀ x ∈ IN,Fn Tryz.prog 54 [bS s.know,sC x.key,lZ x.rep x.cnt] (bO (f x))) (a7:∀ x ∈ IN,Fn Tryz.prog 54 [bS OW,sC x.key,lZ x.rep x.cnt] (bO (g x)))
   (a8:Fn Tryz.prog 67 [bS OW,iC .i64 s.id] (fL mo)) (a9:Fn Tryz.prog 68 [.bor 1 [[cG s.its],[cG IN]]] (.per (cG M))) (a10:Fn Tryz.prog 69 [di M] (bO ap))
   (a11:Fn Tryz.prog 70 [.bor 1 [[ff s.know],[ff OW]]] (.per (ff J))) (a12:Fn Tryz.prog 71 [dg s.flt] (.per (eB s.flt))) :
   Fn Tryz.prog 28 [cY s,.per (cG l),gM k] (.tup2 (.per (sL (Ke s IN M J mo ap f g).1)) (fL (Ke s IN M J mo ap f g).2)):=by
 unfold Ke
 generalize hp:(fun x=>!f x && !g x) = p
 refine fi Tryz.func28 Tryz.ntmps28 ?_
 (have kc1:=a1;have kc2:=a2;have kc3:=a3;have kc4:=a4;have kc5:=a5;refine w0 ?_;(repeat' first|refine W2.mk ?_ ?_|refine W1.mk fun hc=>?_);all_goals clear kc5 kc4 kc3 kc2 kc1)
 clear a1 a2 a3 a4 a5
 refine ah (X:=Nat) (fun i=>i ≤ IN.length ∧ (IN.take i).any p = false) (fun i=>aN [(1,.per (cG IN)),(2,gM OW),(3,.ptr 3 0 0),(6,.ptr 6 0 0),(7,iC .i64 0),(34,.per (cG IN)),(35,iC .i64 (IN.length:Nat)),(36,iC .i64 (i:Nat))] [(3,.box 26 ((o6 s).map Cnt.per)),(6,MT)]) (fun i=>IN.length - i) 0 ⟨Nat.zero_le _,rfl⟩ ?_ ?_
 · exact ab
 · rintro i ⟨h1,h2⟩
   by_cases hi:i < IN.length
   · have c6:=a6 _ (List.getElem_mem hi)
     have c7:=a7 _ (List.getElem_mem hi)
     have hsn:=oH hi h2
     have hh:=ru (p:=p) hi
     have hpx:p IN[i] = (!f IN[i] && !g IN[i]):=by rw [← hp]
     clear a6 a7 a8 a9 a10 a11 a12 hp h2
     generalize f IN[i] = x1 at *
     generalize g IN[i] = x2 at *
     generalize p IN[i] = px at *
     cases x1 with
     | true=>
       subst hpx
       clear hh
       (have kc1:=c6;have kc2:=c7;refine w0 ?_;(repeat' first|refine W2.mk ?_ ?_|refine W1.mk fun hc=>?_);all_goals clear kc2 kc1)
       refine ⟨i + 1,⟨by omega,hsn⟩,by omega,?_⟩
       exact ab
     | false=>
       cases x2 with
       | true=>
         subst hpx
         clear hh
         (have kc1:=c6;have kc2:=c7;refine w0 ?_;(repeat' first|refine W2.mk ?_ ?_|refine W1.mk fun hc=>?_);all_goals clear kc2 kc1)
         refine ⟨i + 1,⟨by omega,hsn⟩,by omega,?_⟩
         exact ab
       | false=>
         subst hpx
         rw [if_pos (hh rfl)]
         clear hsn hh
         (have kc1:=c6;have kc2:=c7;refine w0 ?_;(repeat' first|refine W2.mk ?_ ?_|refine W1.mk fun hc=>?_);all_goals clear kc2 kc1)
         refine j8 ?_ ?_
         · exact eX (cq inferInstance inferInstance rfl rfl rfl rfl rfl rfl) aI
         · exact aA rfl rfl
   · rw [List.take_of_length_le (by omega)] at h2
     rw [h2,if_neg (by simp)]
     clear a6 a7 hp h2
     by_cases q1:mo > s.cnt
     · rw [if_pos q1]
       clear a9 a10 a11 a12
       (have kc1:=a8;refine w0 ?_;(repeat' first|refine W2.mk ?_ ?_|refine W1.mk fun hc=>?_);all_goals clear kc1)
       refine j8 ?_ ?_
       · exact eX (cq inferInstance inferInstance rfl rfl rfl rfl rfl rfl) aI
       · exact aA rfl rfl
     rw [if_neg q1]
     cases ap with
     | false=>
       rw [if_pos rfl]
       clear a11 a12
       (have kc1:=a8;have kc2:=a9;have kc3:=a10;refine w0 ?_;(repeat' first|refine W2.mk ?_ ?_|refine W1.mk fun hc=>?_);all_goals clear kc3 kc2 kc1)
       refine j8 ?_ ?_
       · exact eX (cq inferInstance inferInstance rfl rfl rfl rfl rfl rfl) aI
       · exact aA rfl rfl
     | true=>
       rw [if_neg (by simp)]
       by_cases q2:M.length > 4096
       · rw [if_pos q2]
         clear a11 a12
         (have kc1:=a8;have kc2:=a9;have kc3:=a10;refine w0 ?_;(repeat' first|refine W2.mk ?_ ?_|refine W1.mk fun hc=>?_);all_goals clear kc3 kc2 kc1)
         refine j8 ?_ ?_
         · exact eX (cq inferInstance inferInstance rfl rfl rfl rfl rfl rfl) aI
         · exact aA rfl rfl
       · rw [if_neg q2]
         (have kc1:=a8;have kc2:=a9;have kc3:=a10;have kc4:=a11;have kc5:=a12;refine w0 ?_;(repeat' first|refine W2.mk ?_ ?_|refine W1.mk fun hc=>?_);all_goals clear kc5 kc4 kc3 kc2 kc1)
         refine j8 ?_ ?_
         · exact cq inferInstance inferInstance rfl rfl rfl rfl rfl rfl
         · exact aA rfl rfl
theorem Da (s:Sta) (l:List It) (k:List Pc) (a1:Fn Tryz.prog 64 [cY s] (bO false)):Fn Tryz.prog 28 [cY s,.per (cG l),gM k] (.tup2 (.per (sL {})) (fL 41)):=by
 refine fi Tryz.func28 Tryz.ntmps28 ?_
 (have kc1:=a1;refine w0 ?_;(repeat' first|refine W2.mk ?_ ?_|refine W1.mk fun hc=>?_);all_goals clear kc1)
 refine j8 ?_ ?_
 · exact eX (cq inferInstance inferInstance rfl rfl rfl rfl rfl rfl) aI
 · exact aA rfl rfl
theorem Hd (s:Sta) (l:List It) (k:List Pc) (b c:Bool) (h:(b && c) = false) (a1:Fn Tryz.prog 64 [cY s] (bO true)) (a2:Fn Tryz.prog 65 [di l] (bO b)) (a3:Fn Tryz.prog 66 [bS k] (bO c)) :
   Fn Tryz.prog 28 [cY s,.per (cG l),gM k] (.tup2 (.per (sL {})) (fL 2)):=by
 cases b <;> cases c
 case true.true=>cases h
 all_goals
   refine fi Tryz.func28 Tryz.ntmps28 ?_
   (have kc1:=a1;have kc2:=a2;have kc3:=a3;refine w0 ?_;(repeat' first|refine W2.mk ?_ ?_|refine W1.mk fun hc=>?_);all_goals clear kc3 kc2 kc1)
   refine j8 ?_ ?_
   · exact eX (cq inferInstance inferInstance rfl rfl rfl rfl rfl rfl) aI
   · exact aA rfl rfl
end
end Go.Proofs.YtembiemaiacdfaaGreat
