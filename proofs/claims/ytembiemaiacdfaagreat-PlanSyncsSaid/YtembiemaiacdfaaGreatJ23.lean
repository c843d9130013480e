/- Texts joined: SwP SwW SrtR RgW. -/
import Derived.Test.YtembiemaiacdfaaGreatJ20
import Derived.Test.YtembiemaiacdfaaGreatJ22
import Derived.Test.YtembiemaiacdfaaGreatJ05
import Derived.Test.YtembiemaiacdfaaGreatJ15
import Derived.Test.YtembiemaiacdfaaGreatJ21
import Derived.Test.YtembiemaiacdfaaGreatJ16
set_option maxRecDepth 10000
set_option maxHeartbeats 8000000
namespace Go.Proofs.YtembiemaiacdfaaGreat
open Go.RowKit
theorem jJ (r c:Int):fw [] r c = false:=by unfold fw aC cB;simp
theorem du:∀ {k:List Pc},aO k → ∀ (s:ByteArray) (r c:Int),aZ k s r c = fw (cH k s) r c:=by
 intro k
 induction k with
 | nil=>intro _ s r c;rw [jD,jJ];rfl
 | cons p l ih=>
   intro h s r c
   have hl:=((cn p l).1 h).2.2
   have e:aZ (p :: l) s r c = ((bL p.rg s && fw p.set r c) || aZ l s r c):=rfl
   rw [e,ih hl]
   by_cases q:bL p.rg s = true
   · have hn:cH l s = []:=by
       by_cases g:cH l s = []
       · exact g
       · obtain ⟨g1,g2⟩:=jE h g
         have hr:=(b9 ((cn p l).1 h).1.1 s).1 q
         rcases hr.2 with q2|q2
         · rw [g1] at q2;cases q2
         · grind
     rw [q,g9 q,hn,jJ];simp
   · rw [dN q,Bool.eq_false_iff.2 q];simp
theorem fx {s:List Kn} {r c:Int}:fw s r c = true ↔ cI r c = true ∧ dD (aC s (r - 1).toNat) c:=by
 unfold fw
 rw [Bool.and_eq_true,eF]
theorem ni {r c:Int} (h:cI r c = true):1 ≤ r ∧ r ≤ 16:=by
 unfold cI at h
 simp at h
 omega
theorem wG {a b:List Kn} {r c:Int}:fw (em ofR (a ++ b)) r c = true ↔ fw a r c = true ∨ fw b r c = true:=by
 rw [fx,fx,fx]
 constructor
 · rintro ⟨h1,h2⟩
   have:=ni h1
   rw [kj _ (by omega),e9,lP,gA] at h2
   rcases h2 with h2|h2
   · exact .inl ⟨h1,h2⟩
   · exact .inr ⟨h1,h2⟩
 · intro h
   have h1:cI r c = true:=by rcases h with h|h <;> exact h.1
   have:=ni h1
   refine ⟨h1,?_⟩
   rw [kj _ (by omega),e9,lP,gA]
   rcases h with h|h
   · exact .inl h.2
   · exact .inr h.2
theorem wI:em ofR [] = []:=ia eG
theorem KT (s:ByteArray):fh [] s = []:=wI
theorem ew {a b:List Pc} (ha:aO a) (hb:aO b) (s:ByteArray) (r c:Int):aZ (ki (a ++ b)) s r c = (aZ a s r c || aZ b s r c):=by
 obtain ⟨h1,h2⟩:=fF (a ++ b)
 rw [Bool.eq_iff_iff,Bool.or_eq_true,du h1,h2,oy,wG,du ha,du hb,dA ha,dA hb]
theorem mz {k:List Pc} (h:aO k) (f:List Rg) (s:ByteArray) (r c:Int):aZ (aR k f) s r c = (bg f s && aZ k s r c):=by
 obtain ⟨h1,h2⟩:=dp k f
 rw [du h1,h2]
 unfold iH
 by_cases q:bg f s = true
 · rw [if_pos q,q,dA h,du h];simp
 · rw [if_neg q,Bool.eq_false_iff.2 q,jJ];rfl
theorem k9 (k:List Pc) (f:List Rg):aR (aR k f) f = aR k f:=by
 obtain ⟨h1,h2⟩:=dp k f
 obtain ⟨h3,h4⟩:=dp (aR k f) f
 refine iE h3 h1 fun s=>?_
 rw [h4,h2]
 unfold iH
 by_cases q:bg f s = true
 · rw [if_pos q,if_pos q,dA h1,h2];unfold iH;rw [if_pos q]
 · rw [if_neg q,if_neg q]
theorem Cu {a b:List Pc}:ud a (ki (b ++ a)) = []:=by
 obtain ⟨h1,h2⟩:=Cn a (ki (b ++ a))
 obtain ⟨h3,h4⟩:=fF (b ++ a)
 refine iE h1 fv fun s=>?_
 rw [h2,jD,dA h3,h4,oy]
 refine qC (sA _ _) eG fun r hr n=>?_
 rw [ue _ _ hr,Cm,kj _ hr,e9,lP,gA]
 constructor
 · rintro ⟨q1,q2⟩;exact absurd (.inr q1) q2
 · intro q
   unfold aC at q
   exact absurd q (dm n)
def jU (f:List Rg) (l:List It):List It:=l.filter fun x=>bg f x.key
def dS (s:Sta) (l:List It) (k:List Pc):Sta × Int:=
 if ef s = false then ({},41)
 else if cX l = false ∨ ¬ aO k then ({},2)
 else if (jU s.flt l).any (fun x=>!aZ s.know x.key x.rep x.cnt && !aZ (aR k s.flt) x.key x.rep x.cnt) then ({},2)
 else if ee (aR k s.flt) s.id > s.cnt then ({},2)
 else if dF (aV [s.its ++ jU s.flt l]) = false then ({},2)
 else if (aV [s.its ++ jU s.flt l]).length > 4096 then ({},32)
 else (⟨s.id,s.flt,aV [s.its ++ jU s.flt l],ki (s.know ++ aR k s.flt),s.cnt⟩,0)
def dh (l:List It) (f:List Rg) (k:List Pc):List It:=l.filter fun x=>bg f x.key && !aZ k x.key x.rep x.cnt
def ej (s t:Sta):Sta × Int:=if ef s = false ∨ ef t = false then ({},41) else dS t (dh s.its t.flt t.know) (aR s.know t.flt)
theorem nj {s:Sta} {l:List It} {k:List Pc} (h:(dS s l k).2 = 0) :
   ef s = true ∧ cX l = true ∧ aO k ∧ (dS s l k).1 = ⟨s.id,s.flt,aV [s.its ++ jU s.flt l],ki (s.know ++ aR k s.flt),s.cnt⟩:=by
 unfold dS at h ⊢
 by_cases c1:ef s = false
 · rw [if_pos c1] at h;simp at h
 rw [if_neg c1] at h ⊢
 by_cases c2:cX l = false ∨ ¬ aO k
 · rw [if_pos c2] at h;simp at h
 rw [if_neg c2] at h ⊢
 by_cases c3:(jU s.flt l).any (fun x=>!aZ s.know x.key x.rep x.cnt && !aZ (aR k s.flt) x.key x.rep x.cnt) = true
 · rw [if_pos c3] at h;simp at h
 rw [if_neg c3] at h ⊢
 by_cases c4:ee (aR k s.flt) s.id > s.cnt
 · rw [if_pos c4] at h;simp at h
 rw [if_neg c4] at h ⊢
 by_cases c5:dF (aV [s.its ++ jU s.flt l]) = false
 · rw [if_pos c5] at h;simp at h
 rw [if_neg c5] at h ⊢
 by_cases c6:(aV [s.its ++ jU s.flt l]).length > 4096
 · rw [if_pos c6] at h;simp at h
 rw [if_neg c6]
 refine ⟨by simpa using c1,?_,?_,rfl⟩
 · by_cases q:cX l = false
   · exact absurd (.inl q) c2
   · simpa using q
 · by_cases q:aO k
   · exact q
   · exact absurd (.inr q) c2
theorem kp {s:Sta} (h:ef s = true):aO s.know ∧ ∀ x ∈ s.its,aZ s.know x.key x.rep x.cnt = true:=by
 unfold ef at h
 simp only [Bool.and_eq_true,decide_eq_true_eq,List.all_eq_true] at h
 exact ⟨h.1.1.1.1.2,fun x hx=>(h.2 x hx).2⟩
theorem y9 {s t:Sta} (h:(ej s t).2 = 0) :
   ef s = true ∧ ef t = true ∧ (ej s t).1.flt = t.flt ∧ (ej s t).1.know = ki (t.know ++ aR s.know t.flt) ∧ (ej s t).1.its = aV [t.its ++ jU t.flt (dh s.its t.flt t.know)] ∧
   dh s.its (ej s t).1.flt (ej s t).1.know = [] ∧ ud (aR s.know (ej s t).1.flt) (ej s t).1.know = []:=by
 unfold ej at h ⊢
 by_cases c:ef s = false ∨ ef t = false
 · rw [if_pos c] at h;simp at h
 rw [if_neg c] at h ⊢
 obtain ⟨h1,h2,h3,h4⟩:=nj h
 have hs:ef s = true:=by
   by_cases q:ef s = true
   · exact q
   · exact absurd (.inl (by simpa using q)) c
 obtain ⟨p1,p2⟩:=kp hs
 obtain ⟨p3,_⟩:=kp h1
 obtain ⟨r1,_⟩:=dp s.know t.flt
 rw [h4]
 dsimp only
 rw [k9]
 refine ⟨hs,h1,rfl,rfl,rfl,?_,Cu⟩
 unfold dh
 rw [List.filter_eq_nil_iff]
 intro x hx
 rw [ew p3 r1,mz p1,p2 x hx]
 cases bg t.flt x.key <;> simp
theorem Je:∀ (X:List Kn),((List.range 16).flatMap (aC X)).length ≤ (X.flatMap Kn.runs).length:=by
 intro X
 induction X with
 | nil=>simp [aC];decide
 | cons k X ih=>
   have e:∀ R:List Nat,R.Nodup → (R.flatMap (aC (k :: X))).length ≤ k.runs.length + (R.flatMap (aC X)).length:=by
     intro R
     induction R with
     | nil=>intro _;simp
     | cons r R ih2=>
       intro hn
       obtain ⟨hr,hn⟩:=List.nodup_cons.1 hn
       have e1:aC (k :: X) r = (if k.rep = (r:Int) + 1 then k.runs else []) ++ aC X r:=by unfold aC;rw [List.flatMap_cons]
       rw [List.flatMap_cons,List.flatMap_cons,List.length_append,List.length_append,e1,List.length_append]
       by_cases c:k.rep = (r:Int) + 1
       · rw [if_pos c]
         have e2:R.flatMap (aC (k :: X)) = R.flatMap (aC X):=by
           rw [List.flatMap_def,List.flatMap_def]
           congr 1
           refine List.map_congr_left fun q hq=>?_
           have : ¬ k.rep = (q : Int) + 1 := fun w => hr (by have : q = r := by omega
                                                             rw [← this];exact hq)
           unfold aC
           rw [List.flatMap_cons,if_neg this,List.nil_append]
         rw [e2];omega
       · rw [if_neg c]
         have:=ih2 hn
         simp only [List.length_nil];omega
   have:=e (List.range 16) List.nodup_range
   rw [List.flatMap_cons,List.length_append]
   omega
theorem uq:∀ (T:List (List Rn)) (i:Nat),((aX ofR i T).flatMap Kn.runs).length ≤ T.flatten.length:=by
 intro T
 induction T with
 | nil=>intro i;simp [aX]
 | cons l T ih=>
   intro i
   have h1:=ih (i + 1)
   have h2:=tP l
   rw [aX,List.flatMap_append,List.length_append,List.flatten_cons,List.length_append]
   split
   · simp only [List.flatMap_nil,List.length_nil];omega
   · simp only [List.flatMap_cons,List.flatMap_nil,List.append_nil];omega
theorem sF (X:List Kn):((em ofR X).flatMap Kn.runs).length ≤ (X.flatMap Kn.runs).length:=by
 have h1:=uq (bj X) 0
 have h2:=Je X
 unfold em
 have e:(bj X).flatten = (List.range 16).flatMap (aC X):=by unfold bj;rw [List.flatMap_def]
 rw [e] at h1
 omega
def gN (x:It):List It → List It
 | []=>[x]
 | y :: l=>if bG y.key x.key < 0 then y :: gN x l else x :: (y :: l).filter fun z=>decide (z.key ≠ x.key)
theorem wJ:∀ (l:List It) (x z:It),z ∈ gN x l → z = x ∨ (z ∈ l ∧ z.key ≠ x.key):=by
 intro l
 induction l with
 | nil=>intro x z h;rw [gN] at h;simp at h;exact .inl h
 | cons y l ih=>
   intro x z h
   rw [gN] at h
   split at h
   · rename_i hc
     rcases List.mem_cons.1 h with rfl|h
     · exact .inr ⟨List.mem_cons_self,fun e=>by rw [e,(lR _ _).2 rfl] at hc;omega⟩
     · rcases ih x z h with q|⟨q,r⟩
       · exact .inl q
       · exact .inr ⟨List.mem_cons_of_mem _ q,r⟩
   · rcases List.mem_cons.1 h with rfl|h
     · exact .inl rfl
     · obtain ⟨q,r⟩:=List.mem_filter.1 h
       exact .inr ⟨q,by simpa using r⟩
theorem AO:∀ (l:List It) (x:It),Up l → Up (gN x l):=by
 intro l
 induction l with
 | nil=>intro x _;rw [gN];exact List.pairwise_singleton _ _
 | cons y l ih=>
   intro x h
   have h':=List.pairwise_cons.1 h
   rw [gN]
   split
   · rename_i hc
     refine List.pairwise_cons.2 ⟨fun z hz=>?_,ih x h'.2⟩
     rcases wJ l x z hz with rfl|⟨q,_⟩
     · exact gR.2 hc
     · exact h'.1 z q
   · rename_i hc
     refine List.pairwise_cons.2 ⟨fun z hz=>?_,List.Pairwise.filter _ h⟩
     obtain ⟨q,r⟩:=List.mem_filter.1 hz
     have r:z.key ≠ x.key:=by simpa using r
     have hyx:ltK y x = false:=by
       cases w:ltK y x with
       | false=>rfl
       | true=>exact absurd (gR.1 w) hc
     rcases List.mem_cons.1 q with rfl|q
     · exact uk hyx r.symm
     · by_cases e:y.key = x.key
       · have:=h'.1 z q
         rw [gR] at this ⊢
         rw [← e];exact this
       · exact dn.tr _ _ _ (uk hyx (fun w=>e w.symm)) (h'.1 z q)
theorem Cv {k:ByteArray} {x:It} {l:List It} (hk:k ≠ x.key):bN k (l.filter fun z=>decide (z.key ≠ x.key)) = bN k l:=by
 unfold bN
 congr 1
 rw [List.filter_filter]
 refine List.filter_congr fun z _=>?_
 by_cases e:z.key = k
 · have:z.key ≠ x.key:=fun w=>hk (e.symm.trans w)
   simp [e,hk]
 · have:(z.key == k) = false:=by rw [← Bool.not_eq_true,gK];exact e
   rw [this];rfl
theorem Cw:∀ (l:List It) (x:It) (k:ByteArray),Up l → bN k (gN x l) = if x.key = k then some x else bN k l:=by
 intro l
 induction l with
 | nil=>
   intro x k _
   rw [gN,eW]
   by_cases e:x.key = k
   · rw [if_pos e,if_pos (by rw [gK];exact e)]
   · rw [if_neg e,if_neg (by rw [gK];exact e)];rfl
 | cons y l ih=>
   intro x k h
   have h':=List.pairwise_cons.1 h
   rw [gN]
   split
   · rename_i hc
     have hne:y.key ≠ x.key:=fun e=>by rw [e,(lR _ _).2 rfl] at hc;omega
     rw [show y :: gN x l = [y] ++ gN x l from rfl,cW,ih x k h'.2,show y :: l = [y] ++ l from rfl,cW]
     by_cases e:x.key = k
     · rw [if_pos e,if_pos e,eW,if_neg (by rw [gK];exact fun w=>hne (w.trans e.symm))];rfl
     · rw [if_neg e,if_neg e]
   · rw [show x :: (y :: l).filter (fun z=>decide (z.key ≠ x.key)) = [x] ++ (y :: l).filter (fun z=>decide (z.key ≠ x.key)) from rfl,cW,eW]
     by_cases e:x.key = k
     · rw [if_pos e,if_pos (by rw [gK];exact e),ig (fun z hz=>by
         obtain ⟨_,r⟩:=List.mem_filter.1 hz
         have r:z.key ≠ x.key:=by simpa using r
         exact fun w=>r (w.trans e.symm))];rfl
     · rw [if_neg e,if_neg (by rw [gK];exact e),Cv (fun w=>e w.symm)];rfl
theorem Cx {x:It} {l:List It} (hx:itR x = true) (hl:l.all itR = true) (hu:Up l) (hr:∀ y ∈ l,y.key = x.key → y.rank < x.rank):aV [[x],l] = gN x l:=by
 refine (Up.uniq (AO l x hu) (bw _).1 fun k=>?_).symm
 have hf:([[x],l]:List (List It)).flatten.filter itR = [x] ++ l:=by
   have:([[x],l]:List (List It)).flatten = [x] ++ l:=by simp
   rw [this,List.filter_eq_self]
   intro z hz
   rw [List.mem_append,List.mem_singleton] at hz
   rcases hz with rfl|hz
   · exact hx
   · exact List.all_eq_true.1 hl z hz
 rw [(bw _).2.2,hf,cW,Cw l x k hu,eW]
 by_cases e:x.key = k
 · rw [if_pos e,if_pos (by rw [gK];exact e)]
   have h1:=hu.filter k
   cases h2:bN k l with
   | none=>rfl
   | some z=>
     rw [h2] at h1
     have hz:z ∈ l.filter (fun x=>x.key == k):=by rw [h1];simp
     obtain ⟨q,r⟩:=List.mem_filter.1 hz
     rw [gK] at r
     have:=hr z q (r.trans e.symm)
     have hn:¬ mW z x > 0:=by rw [nh];omega
     simp only [jI]
     rw [if_neg hn]
 · rw [if_neg e,if_neg (by rw [gK];exact e)];rfl
def fA (l:List It) (k:ByteArray):Option It:=l.find? fun x=>decide (x.key = k)
def jf (l:List It) (k:ByteArray):Int:=match fA l k with|some x=>x.rank|none=>0
def dG (k:ByteArray) (r c:Int):List Pc:=if eu k && cI r c then [⟨⟨k,k ++ ⟨#[0]⟩,false⟩,[⟨r,[⟨c,c⟩]⟩]⟩] else []
def lX (s:Sta) (k:ByteArray) (prio:Int) (dead:Bool) (body:ByteArray):It:=⟨k,s.id,s.cnt + 1,jf s.its k + 1,prio,dead,body⟩
def za (s:Sta) (x:It):Sta:=⟨s.id,s.flt,gN x s.its,ki (s.know ++ dG x.key x.rep x.cnt),s.cnt + 1⟩
def kq (s:Sta) (k:ByteArray) (prio:Int) (body:ByteArray):Sta × Int:=
 if ef s = false then ({},41)
 else if eu k = false ∨ prio < 0 ∨ prio > 255 ∨ body.size > 64 then ({},2)
 else if bg s.flt k = false then ({},30)
 else if s.cnt = 1099511627776 ∨ jf s.its k = 1099511627776 then ({},33)
 else if fA s.its k = none ∧ s.its.length = 4096 then ({},32)
 else (za s (lX s k prio false body),0)
def J8 (x y:Rg):Int:=bG x.lo y.lo
def KU (x:Rg):Prop:=x.lo.size ≤ 1000000000
section
theorem MC (x y:Rg) (hx:KU x) (hy:KU y):el Tryz.prog 144 [Hs x,Hs y] [] (.per (aq (.int .i64 (J8 x y)))) []:=by
 obtain ⟨xl,xh,xo⟩:=x
 obtain ⟨yl,yh,yo⟩:=y
 have h1:=e7 xl yl (by have:xl.size ≤ 1000000000:=hx;omega)
 show el Tryz.prog _ [.per (bP [aq (.string xl),aq (.string xh),aq (.bool xo)]),.per (bP [aq (.string yl),aq (.string yh),aq (.bool yo)])] [] (.per (aq (.int .i64 (bG xl yl)))) []
 refine fm Tryz.func144 Tryz.ntmps144 ?_
 (have kc1:=h1;refine w0 ?_;(repeat' first|refine W2.mk ?_ ?_|refine W1.mk fun hc=>?_);all_goals clear kc1)
 (refine ⟨(by first|exact .inl rfl|exact .inr rfl),bR [] rfl rfl .nil ?_⟩)
 exact bf rfl rfl
end
abbrev oW:Cnt:=.per (aq (.func (.func 144) #[] #[]))
abbrev gU (l:List Rg):Blk:=.row 82 3 (l.map rgP)
def ur (l:List Rg):Prop:=∀ x ∈ l,KU x
section
theorem Cy (A M Z:List Rg) (hk:ur M) (hl:(A ++ M ++ Z).length ≤ 1000000000):el Tryz.prog 215 [.row 1000 0,iC .i64 (A.length:Nat),iC .i64 ((A.length + M.length:Nat):Int),oW] [(1000,gU (A ++ M ++ Z))] .any [(1000,gU (A ++ dc ltR M ++ Z))]:=by
 generalize hR:A ++ dc ltR M ++ Z = R
 generalize hb:A.length + M.length = b
 simp only [List.length_append] at hl
 refine fm Tryz.func215 Tryz.ntmps215 ?_
 (refine w0 ?_;(repeat' first|refine W2.mk ?_ ?_|refine W1.mk fun hc=>?_))
 refine ah (X:=Nat × List Rg × List Rg) (fun x=>A.length < x.1 ∧ x.1 ≤ b + 1 ∧ A.length + x.2.1.length = min x.1 b ∧ A.length + x.2.1.length + x.2.2.length = b ∧ ur x.2.1 ∧ ur x.2.2 ∧ A ++ x.2.2.foldl (gC ltR) x.2.1 ++ Z = R)
   (fun x=>aN [(0,.row 1000 0),(1,iC .i64 (A.length:Nat)),(2,iC .i64 (b:Nat)),(3,oW),(8,iC .i64 (x.1:Nat))] [(1000,gU (A ++ x.2.1 ++ (x.2.2 ++ Z)))]) (fun x=>b + 1 - x.1) (A.length + 1,M.take 1,M.drop 1) ?_ ?_ ?_
 · refine ⟨by simp only;omega,by simp only;omega,by simp only [List.length_take];omega,by simp only [List.length_take,List.length_drop];omega,fun x h=>hk x (List.mem_of_mem_take h),fun x h=>hk x (List.mem_of_mem_drop h),?_⟩
   rw [← hR]
   cases M with
   | nil=>rfl
   | cons x M=>rfl
 · have e:A ++ M.take 1 ++ (M.drop 1 ++ Z) = A ++ M ++ Z:=by
     rw [List.append_assoc,← List.append_assoc (M.take 1),List.take_append_drop,List.append_assoc]
   rw [e]
   exact ab
 · rintro ⟨i,p,q⟩ ⟨h1,h2,h3,h4,hkp,hkq,h5⟩
   simp only at h1 h2 h3 h4 hkp hkq h5 ⊢
   by_cases hlt:i < b
   · obtain ⟨x,q,rfl⟩:∃ x q',q = x :: q':=by
       cases q with
       | nil=>simp at h4;omega
       | cons x q=>exact ⟨x,q,rfl⟩
     have hip:A.length + p.length = i:=by omega
     clear h3
     have hkx:=hkq x (by simp)
     simp only [List.length_cons,List.foldl_cons] at h4 h5
     (repeat' (first|refine cN ?_|refine bD ?_|refine cc ?_|refine cd ?_|refine cO ?_|refine bi ?_|refine cL ?_|refine cM (by kernel_rfl) ?_|(refine gw rfl rfl ⟨fun hc=>?_,fun hc=>?_⟩ <;> (repeat rw [List.length_map] at hc) <;> (try exact dy hc))|((first|apply aD rfl|apply aF rfl|apply aG rfl|apply aH rfl);focus (first|exact dY|fail))|refine ce ?_|refine cg ?_|refine ci ?_|refine d8 ?_|refine d9 ?_|refine cj ?_|refine bF rfl ?_|((first|refine gx rfl rfl rfl ⟨fun hc=>?_,fun hc=>?_⟩|refine gy rfl rfl rfl ⟨fun hc=>?_,fun hc=>?_⟩) <;> (fail_if_success (have q:(true = true):=hc)) <;> (fail_if_success (have q:(false = false):=hc)) <;> (repeat rw [List.length_map] at hc) <;> (try exact dy hc))|refine br rfl rfl (fun hc=>?_) ?_))
     refine ah (X:=List Rg × List Rg) (fun y=>y.1.length + y.2.length = p.length ∧ ur y.1 ∧ ur y.2 ∧ iU ltR x y.1.reverse y.2 = gC ltR p x)
       (fun y=>aN [(0,.row 1000 0),(1,iC .i64 (A.length:Nat)),(2,iC .i64 (b:Nat)),(3,oW),(8,iC .i64 (i:Nat)),(9,iC .i64 ((A.length + y.1.length:Nat):Int))] [(1000,gU (A ++ y.1 ++ x :: (y.2 ++ (q ++ Z))))]) (fun y=>y.1.length) (p,[]) ⟨by simp,hkp,fun x h=>by simp at h,rfl⟩ ?_ ?_
     · subst hip
       exact ab
     · rintro ⟨p1,p2⟩ ⟨g1,gk1,gk2,g2⟩
       simp only at g1 gk1 gk2 g2 ⊢
       have out:gC ltR p x = p1 ++ x :: p2 → (∃ z:Nat × List Rg × List Rg,(A.length < z.1 ∧ z.1 ≤ b + 1 ∧ A.length + z.2.1.length = min z.1 b ∧ A.length + z.2.1.length + z.2.2.length = b ∧ ur z.2.1 ∧ ur z.2.2 ∧ A ++ z.2.2.foldl (gC ltR) z.2.1 ++ Z = R) ∧ z = (i + 1,p1 ++ x :: p2,q)):=fun e=>by
         refine ⟨_,⟨by simp only;omega,by simp only;omega,by simp;omega,by simp;omega,fun y hy=>?_,fun y hy=>hkq y (by simp [hy]),by rw [← e];exact h5⟩,rfl⟩
         rcases List.mem_append.1 hy with h|h
         · exact gk1 y h
         · rcases List.mem_cons.1 h with h|h
           · subst h;exact hkx
           · exact gk2 y h
       have hL0:A ++ p1 ++ x :: (p2 ++ (q ++ Z)) = A ++ (p1 ++ x :: p2) ++ (q ++ Z):=by simp
       rcases cP p1 with rfl|⟨p1',y,rfl⟩
       · have e:gC ltR p x = [] ++ x :: p2:=by rw [← g2];rfl
         obtain ⟨z,hz,rfl⟩:=out e
         rw [hL0]
         (refine w0 ?_;(repeat' first|refine W2.mk ?_ ?_|refine W1.mk fun hc=>?_))
         refine ⟨_,hz,by simp only;omega,?_⟩
         exact ab
       · obtain ⟨j,hj⟩:∃ j,A.length + p1'.length = j:=⟨_,rfl⟩
         have hj1:A.length + (p1' ++ [y]).length = j + 1:=by simp;omega
         have hky:=gk1 y (by simp)
         have hm:=MC x y hkx hky
         generalize hL:A ++ (p1' ++ [y]) ++ x :: (p2 ++ (q ++ Z)) = L at *
         have hlen:j + 1 < L.length:=by rw [← hL];simp;omega
         have HJ:(L.map rgP)[j + 1]? = some (rgP x):=by
           rw [List.getElem?_map,← hL,List.getElem?_append_right (by simp;omega),List.length_append,hj1,Nat.sub_self];rfl
         have HJ1:(L.map rgP)[j]? = some (rgP y):=by
           rw [List.getElem?_map,← hL,List.append_assoc,List.append_assoc,List.getElem?_append_right (by omega),List.getElem?_append_right (by omega)]
           rw [show j - A.length - p1'.length = 0 by omega];rfl
         rw [hj1]
         have hrev:(p1' ++ [y]).reverse = y :: p1'.reverse:=by simp
         rw [hrev,iU] at g2
         have HS1:(L.map rgP).set (j + 1) (bI (rgP x) 0 (rgP y)) = (L.set (j + 1) y).map rgP:=by rw [← bp];rfl
         have HJ2:((L.set (j + 1) y).map rgP)[j]? = some (rgP y):=by
           rw [← bp,List.getElem?_set_ne (by omega)];exact HJ1
         have HS2:((L.set (j + 1) y).map rgP).set j (bI (rgP y) 0 (rgP x)) = (A ++ p1' ++ x :: ((y :: p2) ++ (q ++ Z))).map rgP:=by
           rw [bp rgP (L.set (j + 1) y) j x |>.symm.trans rfl |> fun h=>(show ((L.set (j + 1) y).map rgP).set j (bI (rgP y) 0 (rgP x)) = ((L.set (j + 1) y).set j x).map rgP from bp rgP _ j x)]
           rw [← hL,dE (A ++ (p1' ++ [y])) x y _ (j + 1) (by simp;omega),show A ++ (p1' ++ [y]) ++ y :: (p2 ++ (q ++ Z)) = (A ++ p1') ++ y :: (y :: (p2 ++ (q ++ Z))) by simp,dE (A ++ p1') y x _ j (by simp;omega)]
           simp
         by_cases hxy:J8 x y < 0
         · rw [if_pos (show ltR x y = true from decide_eq_true hxy)] at g2
           clear out
           (refine w0 ?_;(repeat' (first|refine W2.mk ?_ ?_|refine W1.mk fun hc=>?_|((first|apply aD rfl|apply aF rfl|apply aG rfl|apply aH rfl);(focus (first|((apply az 5;(focus rfl);first|exact ae ⟨rfl,rfl,rfl⟩ rfl inferInstance inferInstance rfl rfl rfl HJ rfl rfl rfl|exact ae ⟨rfl,rfl,rfl⟩ rfl inferInstance inferInstance rfl rfl rfl HJ1 rfl rfl rfl))|((apply az 6;(focus rfl);first|exact al ⟨rfl,rfl⟩ rfl inferInstance rfl rfl rfl rfl HJ rfl (.inl rfl) rfl HS1|exact al ⟨rfl,rfl⟩ rfl inferInstance rfl rfl rfl rfl HJ2 rfl (.inl rfl) rfl HS2))|(exact nL [] hm)|(apply bx;(focus rfl);apply ag rfl rfl rfl rfl rfl;first|((apply az 5;(focus rfl);first|exact ae ⟨rfl,rfl,rfl⟩ rfl inferInstance inferInstance rfl rfl rfl HJ rfl rfl rfl|exact ae ⟨rfl,rfl,rfl⟩ rfl inferInstance inferInstance rfl rfl rfl HJ1 rfl rfl rfl))|((apply az 6;(focus rfl);first|exact al ⟨rfl,rfl⟩ rfl inferInstance rfl rfl rfl rfl HJ rfl (.inl rfl) rfl HS1|exact al ⟨rfl,rfl⟩ rfl inferInstance rfl rfl rfl rfl HJ2 rfl (.inl rfl) rfl HS2))|(exact nL [] hm))));refine w0 ?_))))
           refine ⟨(p1',y :: p2),⟨by simp at g1 ⊢;omega,fun z h=>gk1 z (by simp [h]),fun z h=>?_,g2⟩,by simp,?_⟩
           · rcases List.mem_cons.1 h with h|h
             · subst h;exact hky
             · exact gk2 z h
           · simp only [hj]
             exact ab
         · rw [if_neg (show ¬ ltR x y = true by unfold ltR;rw [decide_eq_true_iff];exact hxy)] at g2
           have e:gC ltR p x = (p1' ++ [y]) ++ x :: p2:=by rw [← g2];simp
           obtain ⟨z,hz,rfl⟩:=out e
           (refine w0 ?_;(repeat' (first|refine W2.mk ?_ ?_|refine W1.mk fun hc=>?_|((first|apply aD rfl|apply aF rfl|apply aG rfl|apply aH rfl);(focus (first|((apply az 5;(focus rfl);first|exact ae ⟨rfl,rfl,rfl⟩ rfl inferInstance inferInstance rfl rfl rfl HJ rfl rfl rfl|exact ae ⟨rfl,rfl,rfl⟩ rfl inferInstance inferInstance rfl rfl rfl HJ1 rfl rfl rfl))|(exact nL [] hm)|(apply bx;(focus rfl);apply ag rfl rfl rfl rfl rfl;first|((apply az 5;(focus rfl);first|exact ae ⟨rfl,rfl,rfl⟩ rfl inferInstance inferInstance rfl rfl rfl HJ rfl rfl rfl|exact ae ⟨rfl,rfl,rfl⟩ rfl inferInstance inferInstance rfl rfl rfl HJ1 rfl rfl rfl))|(exact nL [] hm))));refine w0 ?_))))
           refine ⟨_,hz,by simp only;omega,?_⟩
           simp only
           rw [← hL0]
           exact ab
   · have hq:q = []:=List.eq_nil_of_length_eq_zero (by omega)
     subst hq
     simp only [List.foldl_nil] at h5
     (refine w0 ?_;(repeat' first|refine W2.mk ?_ ?_|refine W1.mk fun hc=>?_))
     rw [List.nil_append,h5]
     (refine ⟨(by first|exact .inl rfl|exact .inr rfl),bA [(1000,1000)] rfl rfl ?_⟩;(focus (repeat (first|exact ay.nil|(refine ay.cons rfl ?_ ?_;(focus first|rfl|skip))))))
end
section
variable {P:Program} {n:Nat} {ops:Array Oper} {o:Oper} {S:St} {t:Nat}
def rO (k:Nat):Nat:=if k = 0 then 0 else k.log2 + 1
def KV:List UInt8:=(List.range 256).map fun k=>UInt8.ofNat (rO k)
theorem FT:∀ k:Fin 256,(KV[k.val]?).map UInt8.toNat = some (rO k.val):=by decide +kernel
theorem FV {ty:TypeId} {x ix:Operand} {kk:IntKind} {k:Nat} {z:Int} {s:ByteArray} (hp:Pl n o t) (ho:o.op = .index ty x ix) (hT:fK P ty .string) (hx:S.opd x = sC s) (hs:s.data.toList = KV) (hi:S.opd ix = iC kk z) (hz:z = (k:Int)) (hk:k < 256) :
   an n P ops o (ax x ++ ax ix) (iC .u8 ((rO k:Nat):Int)) [] S:=by
 have h:=FT ⟨k,hk⟩
 simp only at h
 cases hc:KV[k]? with
 | none=>rw [hc] at h;cases h
 | some c=>
   rw [hc] at h
   simp only [Option.map_some,Option.some.injEq] at h
   rw [← h]
   exact gu hp ho hT hx hi (i:=k) hz (by rw [hs];exact hc)
theorem Cz {Q:Exit → St → Prop} {x y:Code} (h:AW P n y Q S):AW P n (.cond (.const (.bool false)) x y) Q S:=
 ⟨fun C a w hr=>wp_cond_split (t:=false) rfl (fun h=>by cases h) (fun _=>h.run C a w hr)⟩
theorem AP {z:Nat} (h:z < 256):IntKind.u8.wrap (z:Int) = (z:Int):=by
 simp [IntKind.wrap,IntKind.bits,IntKind.signed];omega
end
section
theorem Jf {k:Nat} (h:k < 256):rO k ≤ 8:=by
 have:∀ k:Fin 256,rO k.val ≤ 8:=by decide +kernel
 exact this ⟨k,h⟩
theorem zb (k:Nat) (hk:k < 256):Fn Tryz.prog 224 [iC .u64 (k:Nat)] (fL ((rO k:Nat):Int)):=by
 have hb:=Jf hk
 have e:(0:Int) + ((rO k:Nat):Int) = ((rO k:Nat):Int):=by omega
 have c1:((k:Nat):Int) < 256:=by omega
 refine fi Tryz.func224 Tryz.ntmps224 ?_
 (repeat' (first|refine cN ?_|refine bD ?_|refine cc ?_|refine cd ?_|refine cO ?_|refine bi ?_|refine db dX ?_|refine cL ?_|refine cM (by kernel_rfl) ?_|(refine gw rfl rfl ⟨fun hc=>?_,fun hc=>?_⟩ <;> (repeat rw [List.length_map] at hc) <;> (try exact dy hc))|((first|apply aD rfl|apply aF rfl|apply aG rfl|apply aH rfl);focus (first|((apply az 13;(focus rfl);exact FV (k:=k) ⟨rfl,rfl,rfl⟩ rfl inferInstance rfl (by decide +kernel) rfl (AP hk) hk))|(apply bx;(focus rfl);apply ag rfl rfl rfl rfl rfl;((apply az 13;(focus rfl);exact FV (k:=k) ⟨rfl,rfl,rfl⟩ rfl inferInstance rfl (by decide +kernel) rfl (AP hk) hk)))|((apply az 8;(focus rfl);exact fT ⟨rfl,rfl,rfl⟩ rfl rfl rfl rfl ((bU (by omega) (by omega)).trans e)))|(apply bx;(focus rfl);apply ag rfl rfl rfl rfl rfl;((apply az 8;(focus rfl);exact fT ⟨rfl,rfl,rfl⟩ rfl rfl rfl rfl ((bU (by omega) (by omega)).trans e))))|exact dY|fail))|refine ce ?_|refine cg ?_|refine ci ?_|refine d8 ?_|refine d9 ?_|refine cj ?_|refine bF rfl ?_|((first|refine gx rfl rfl rfl ⟨fun hc=>?_,fun hc=>?_⟩|refine gy rfl rfl rfl ⟨fun hc=>?_,fun hc=>?_⟩) <;> (fail_if_success (have q:(true = true):=hc)) <;> (fail_if_success (have q:(false = false):=hc)) <;> (repeat rw [List.length_map] at hc) <;> (try exact dy hc))|refine br rfl rfl (fun hc=>?_) ?_))
 refine aQ ?_
 exact aA rfl rfl
theorem FW (k:Nat) (hk:k < 256):Fn Tryz.prog 189 [iC .u64 (k:Nat)] (fL ((rO k:Nat):Int)):=by
 have h:=zb k hk
 refine fi Tryz.func189 Tryz.ntmps189 ?_
 (refine w0 ?_;(repeat' first|refine W2.mk ?_ ?_|refine W1.mk fun hc=>?_))
 refine Cz ?_
 (have kc1:=h;have kh1:=Lib.hid (show (0:Int) / 2 = 0 from rfl);refine bq ?_;(repeat' first|refine W2.mk ?_ ?_|refine W1.mk fun hc=>?_);all_goals clear kh1 kc1)
 refine aQ ?_
 exact aA rfl rfl
theorem Jg (M:List Rg) (lim:Int) (hk:ur M) (hl:M.length ≤ 12):el Tryz.prog 188 [.row 1000 0,iC .i64 0,iC .i64 (M.length:Nat),iC .i64 lim,oW] [(1000,gU M)] .any [(1000,gU (dc ltR M))]:=by
 have h:=Cy [] M [] hk (by simp;omega)
 simp only [List.nil_append,List.append_nil,List.length_nil,Nat.zero_add] at h
 generalize dc ltR M = R at *
 have e:((M.length:Nat):Int) - 0 = ((M.length:Nat):Int):=by omega
 refine fm Tryz.func188 Tryz.ntmps188 ?_
 (have km1:=(show bv [(1000,1000)] _ _ _ _ _ _ from h);have ke1:=Lib.hid (e);refine bq ?_;(repeat' first|refine W2.mk ?_ ?_|refine W1.mk fun hc=>?_);all_goals clear ke1 km1)
 refine ah (X:=Unit) (fun _=>True) (fun _=>aN [(0,.row 1000 0),(1,iC .i64 0),(2,iC .i64 (M.length:Nat)),(3,iC .i64 lim),(4,oW)] [(1000,gU M)]) (fun _=>0) () trivial ?_ ?_
 · exact ab
 · rintro _ -
   (have km1:=(show bv [(1000,1000)] _ _ _ _ _ _ from h);have ke1:=Lib.hid (e);refine bq ?_;(repeat' first|refine W2.mk ?_ ?_|refine W1.mk fun hc=>?_);all_goals clear ke1 km1)
   (refine ⟨(by first|exact .inl rfl|exact .inr rfl),bA [(1000,1000)] rfl rfl ?_⟩;(focus (repeat (first|exact ay.nil|(refine ay.cons rfl ?_ ?_;(focus first|rfl|skip))))))
theorem FX (M:List Rg) (hk:ur M) (hl:M.length ≤ 12):el Tryz.prog 143 [.row 1000 0,oW] [(1000,gU M)] .any [(1000,gU (dc ltR M))]:=by
 have h1:=FW M.length (by omega)
 have h:=Jg M ((rO M.length:Nat):Int) hk hl
 generalize dc ltR M = R at *
 refine fm Tryz.func143 Tryz.ntmps143 ?_
 (have kc1:=h1;have km1:=(show bv [(1000,1000)] _ _ _ _ _ _ from h);have kh1:=Lib.hid (show (0:Int) / 2 = 0 from rfl);refine bq ?_;(repeat' first|refine W2.mk ?_ ?_|refine W1.mk fun hc=>?_);all_goals clear kh1 km1 kc1)
 (refine ⟨(by first|exact .inl rfl|exact .inr rfl),bA [(1000,1000)] rfl rfl ?_⟩;(focus (repeat (first|exact ay.nil|(refine ay.cons rfl ?_ ?_;(focus first|rfl|skip))))))
end
abbrev wK (l:List Rg):Ret:=.own 82 3 (l.map rgP)
theorem wL {Q:List Rg} {k:Nat} (hk:k < Q.length):fP (Q.take (k + 1)) = xO (fP (Q.take k)) Q[k]:=by
 unfold fP;rw [List.take_succ_eq_append_getElem hk,List.foldl_append];rfl
theorem CA {Q:List Rg} (hR:∀ r ∈ Q,eJ r = true) (hS:Q.Pairwise (fun x y=>x.lo ≤ y.lo)) (k:Nat):∀ r ∈ fP (Q.take k),eJ r = true:=by
 intro r hr
 have h:=(wq (L:=Q.take k) (fun x hx=>hR x (List.mem_of_mem_take hx)) (hS.sublist (List.take_sublist _ _))).1
 obtain ⟨i,hi,rfl⟩:=List.getElem_of_mem hr
 exact (h i hi).1
theorem Jh (Q:List Rg) (k:Nat):(fP (Q.take k)).length ≤ k:=by
 have h:=Fq (Q.take k) []
 rw [List.length_take] at h
 simp only [List.length_nil] at h
 unfold fP
 omega
section
theorem AQ (l Q:List Rg) (hs:el Tryz.prog 143 [.row 1000 0,oW] [(1000,gU (l.filter eJ))] .any [(1000,gU Q)]) (hql:Q.length = (l.filter eJ).length)
   (hQr:∀ x ∈ Q,eJ x = true) (hQs:Q.Pairwise fun x y=>x.lo ≤ y.lo) (hn:l.length ≤ 1000000000):Fn Tryz.prog 91 [dg l] (wK (fP Q)):=by
 generalize hT:l.filter eJ = T at *
 have hTl:T.length ≤ 1000000000:=by rw [← hT];exact Nat.le_trans (List.length_filter_le _ _) hn
 generalize hR:fP Q = R
 refine fi Tryz.func91 Tryz.ntmps91 ?_
 (refine w0 ?_;(repeat' first|refine W2.mk ?_ ?_|refine W1.mk fun hc=>?_))
 refine ck (bz 3 600 82 3 rfl rfl) ?_
 refine ah (X:=Nat × List Rg) (fun x=>x.1 ≤ l.length ∧ x.2 ++ (l.drop x.1).filter eJ = T)
   (fun x=>aN [(3,.row 600 0),(10,dg l),(11,iC .i64 (l.length:Nat)),(12,iC .i64 (x.1:Nat))] [(600,gU x.2)]) (fun x=>l.length - x.1) (0,[]) ⟨Nat.zero_le _,by simp [hT]⟩ ?_ ?_
 · exact ab
 · rintro ⟨k,ac⟩ ⟨g1,g2⟩
   simp only at g1 g2 ⊢
   by_cases hk:k < l.length
   · have hir:=fd l[k]
     have hlen:ac.length ≤ 1000000000:=by
       have:=congrArg List.length g2
       simp only [List.length_append] at this;omega
     rw [List.drop_eq_getElem_cons hk,List.filter_cons] at g2
     cases hr:eJ l[k] with
     | false=>
       rw [hr] at hir g2
       (have kc1:=hir;refine w0 ?_;(repeat' first|refine W2.mk ?_ ?_|refine W1.mk fun hc=>?_);all_goals clear kc1)
       refine ⟨(k + 1,ac),⟨by simp only;omega,by simpa using g2⟩,by simp only;omega,?_⟩
       exact ab
     | true=>
       rw [hr] at hir g2
       (have kc1:=hir;refine w0 ?_;(repeat' first|refine W2.mk ?_ ?_|refine W1.mk fun hc=>?_);all_goals clear kc1)
       refine ⟨(k + 1,ac ++ [l[k]]),⟨by simp only;omega,by simpa using g2⟩,by simp only;omega,ak (aM 600 601) (ak (aM 601 600) ?_)⟩
       exact ab
   · have hkl:k = l.length:=by omega
     subst hkl
     rw [List.drop_length] at g2
     simp at g2
     subst g2
     (have km1:=(show bv [(1000,600)] _ _ _ _ _ _ from hs);refine w0 ?_;(repeat' first|refine W2.mk ?_ ?_|refine W1.mk fun hc=>?_);all_goals clear km1)
     clear hs hT
     refine ck (bz 6 700 82 3 rfl rfl) ?_
     refine ah (X:=Nat × List Rg) (fun x=>x.1 ≤ Q.length ∧ x.2 = fP (Q.take x.1))
       (fun x=>aN [(6,.row 700 0),(25,.row 600 0),(26,iC .i64 (Q.length:Nat)),(27,iC .i64 (x.1:Nat))] [(600,gU Q),(700,gU x.2)]) (fun x=>Q.length - x.1) (0,[]) ⟨Nat.zero_le _,rfl⟩ ?_ ?_
     · exact ab
     · rintro ⟨k,out⟩ ⟨g1,g2⟩
       simp only at g1 g2 ⊢
       by_cases hk:k < Q.length
       · have hol:out.length ≤ 1000000000:=by have:=Jh Q k;rw [← g2] at this;omega
         have hor:=CA hQr hQs k
         rw [← g2] at hor
         have g3:=wL hk
         rw [← g2] at g3
         have hxr:=hQr _ (List.getElem_mem hk)
         generalize hx:Q[k] = x at *
         have HQ:(Q.map rgP)[k]? = some (rgP x):=by rw [List.getElem?_map,List.getElem?_eq_getElem hk,hx];rfl
         clear hQr hQs hx g2
         rcases cP out with rfl|⟨o,y,rfl⟩
         · have g4:[x] = fP (Q.take (k + 1)):=by rw [g3];rfl
           (refine w0 ?_;(repeat' (first|refine W2.mk ?_ ?_|refine W1.mk fun hc=>?_|((first|apply aD rfl|apply aF rfl|apply aG rfl|apply aH rfl);(focus (first|((apply az 5;(focus rfl);exact ae ⟨rfl,rfl,rfl⟩ rfl inferInstance inferInstance rfl rfl rfl HQ rfl rfl rfl))|(apply bx;(focus rfl);apply ag rfl rfl rfl rfl rfl;first|((apply az 5;(focus rfl);exact ae ⟨rfl,rfl,rfl⟩ rfl inferInstance inferInstance rfl rfl rfl HQ rfl rfl rfl)))));refine w0 ?_))))
           refine ⟨(k + 1,[x]),⟨by simp only;omega,g4⟩,by simp only;omega,ak (aM 700 701) (ak (aM 701 700) ?_)⟩
           exact ab
         · have hyr:=hor y (by simp)
           clear hor
           have hG:fP (Q.take (k + 1)) = (if y.op = false ∧ bG y.hi x.lo < 0 then (o ++ [y]) ++ [x] else if Ca y x < 0 then o ++ [⟨y.lo,x.hi,x.op⟩] else o ++ [y]):=by
             rw [g3,xO]
             simp only [List.reverse_append,List.reverse_cons,List.reverse_nil,List.nil_append,List.singleton_append,List.reverse_reverse]
           clear g3
           have hcm:=e7 y.hi x.lo (by have:=((bH y).1 hyr).2.1;omega)
           have hen:=Cf y x hyr hxr
           clear hyr hxr
           have hL1:(o ++ [y]).length = o.length + 1:=by simp
           generalize hL:o ++ [y] = L at *
           have hLi:((L.length:Int) - 1).toNat = o.length:=by omega
           have HY:(L.map rgP)[((L.length:Int) - 1).toNat]? = some (rgP y):=by
             rw [List.getElem?_map,hLi,← hL]
             simp
           have HS1:(L.map rgP).set ((L.length:Int) - 1).toNat (bI (rgP y) 1 [aq (.string x.hi)]) = (o ++ [(⟨y.lo,x.hi,y.op⟩:Rg)]).map rgP:=by
             rw [show (L.map rgP).set ((L.length:Int) - 1).toNat (bI (rgP y) 1 [aq (.string x.hi)]) = (L.set ((L.length:Int) - 1).toNat ⟨y.lo,x.hi,y.op⟩).map rgP from bp rgP L _ (⟨y.lo,x.hi,y.op⟩:Rg),← hL,dE o y _ [] _ (by rw [hL];omega)]
           have HY2:((o ++ [(⟨y.lo,x.hi,y.op⟩:Rg)]).map rgP)[((L.length:Int) - 1).toNat]? = some (rgP ⟨y.lo,x.hi,y.op⟩):=by
             rw [List.getElem?_map,hLi]
             simp
           have HS2:((o ++ [(⟨y.lo,x.hi,y.op⟩:Rg)]).map rgP).set ((L.length:Int) - 1).toNat (bI (rgP ⟨y.lo,x.hi,y.op⟩) 2 [aq (.bool x.op)]) = (o ++ [(⟨y.lo,x.hi,x.op⟩:Rg)]).map rgP:=by
             rw [show ((o ++ [(⟨y.lo,x.hi,y.op⟩:Rg)]).map rgP).set ((L.length:Int) - 1).toNat (bI (rgP ⟨y.lo,x.hi,y.op⟩) 2 [aq (.bool x.op)]) = ((o ++ [(⟨y.lo,x.hi,y.op⟩:Rg)]).set ((L.length:Int) - 1).toNat ⟨y.lo,x.hi,x.op⟩).map rgP from bp rgP (o ++ [(⟨y.lo,x.hi,y.op⟩:Rg)]) _ (⟨y.lo,x.hi,x.op⟩:Rg),dE o _ _ [] _ (by omega)]
           generalize hE:Ca y x = E at *
           generalize hC:bG y.hi x.lo = C at *
           cases hyo:y.op with
           | true=>
             rw [hyo,if_neg (by simp)] at hG
             have HYt:(L.map rgP)[((L.length:Int) - 1).toNat]? = some [aq (.string y.lo),aq (.string y.hi),aq (.bool true)]:=by rw [HY];simp only [rgP,hyo]
             (have kc1:=hcm;have kc2:=hen;refine w0 ?_;(repeat' (first|refine W2.mk ?_ ?_|refine W1.mk fun hc=>?_|((first|apply aD rfl|apply aF rfl|apply aG rfl|apply aH rfl);(focus (first|((apply az 5;(focus rfl);first|exact aw ⟨rfl,rfl,rfl⟩ rfl inferInstance rfl rfl rfl HYt rfl|exact ae ⟨rfl,rfl,rfl⟩ rfl inferInstance inferInstance rfl rfl rfl HY rfl rfl rfl|exact ae ⟨rfl,rfl,rfl⟩ rfl inferInstance inferInstance rfl rfl rfl HQ rfl rfl rfl))|((apply az 6;(focus rfl);first|exact al ⟨rfl,rfl⟩ rfl inferInstance rfl rfl rfl rfl HY rfl (aK rfl rfl rfl) rfl HS1|exact al ⟨rfl,rfl⟩ rfl inferInstance rfl rfl rfl rfl HY2 rfl (aK rfl rfl rfl) rfl HS2))|(apply bx;(focus rfl);apply ag rfl rfl rfl rfl rfl;first|((apply az 5;(focus rfl);first|exact aw ⟨rfl,rfl,rfl⟩ rfl inferInstance rfl rfl rfl HYt rfl|exact ae ⟨rfl,rfl,rfl⟩ rfl inferInstance inferInstance rfl rfl rfl HY rfl rfl rfl|exact ae ⟨rfl,rfl,rfl⟩ rfl inferInstance inferInstance rfl rfl rfl HQ rfl rfl rfl))|((apply az 6;(focus rfl);first|exact al ⟨rfl,rfl⟩ rfl inferInstance rfl rfl rfl rfl HY rfl (aK rfl rfl rfl) rfl HS1|exact al ⟨rfl,rfl⟩ rfl inferInstance rfl rfl rfl rfl HY2 rfl (aK rfl rfl rfl) rfl HS2)))));refine w0 ?_)));all_goals clear kc2 kc1)
             · rw [if_pos (by omega)] at hG
               refine ⟨(k + 1,_),⟨by simp only;omega,hG.symm⟩,by simp only;omega,?_⟩
               exact ab
             · rw [if_neg (by omega)] at hG
               refine ⟨(k + 1,L),⟨by simp only;omega,hG.symm⟩,by simp only;omega,?_⟩
               exact ab
           | false=>
             rw [hyo] at hG
             have HYt:(L.map rgP)[((L.length:Int) - 1).toNat]? = some [aq (.string y.lo),aq (.string y.hi),aq (.bool false)]:=by rw [HY];simp only [rgP,hyo]
             by_cases hC0:C < 0
             · rw [if_pos ⟨rfl,hC0⟩] at hG
               (have kc1:=hcm;have kc2:=hen;refine w0 ?_;(repeat' (first|refine W2.mk ?_ ?_|refine W1.mk fun hc=>?_|((first|apply aD rfl|apply aF rfl|apply aG rfl|apply aH rfl);(focus (first|((apply az 5;(focus rfl);first|exact aw ⟨rfl,rfl,rfl⟩ rfl inferInstance rfl rfl rfl HYt rfl|exact ae ⟨rfl,rfl,rfl⟩ rfl inferInstance inferInstance rfl rfl rfl HY rfl rfl rfl|exact ae ⟨rfl,rfl,rfl⟩ rfl inferInstance inferInstance rfl rfl rfl HQ rfl rfl rfl))|((apply az 6;(focus rfl);first|exact al ⟨rfl,rfl⟩ rfl inferInstance rfl rfl rfl rfl HY rfl (aK rfl rfl rfl) rfl HS1|exact al ⟨rfl,rfl⟩ rfl inferInstance rfl rfl rfl rfl HY2 rfl (aK rfl rfl rfl) rfl HS2))|(apply bx;(focus rfl);apply ag rfl rfl rfl rfl rfl;first|((apply az 5;(focus rfl);first|exact aw ⟨rfl,rfl,rfl⟩ rfl inferInstance rfl rfl rfl HYt rfl|exact ae ⟨rfl,rfl,rfl⟩ rfl inferInstance inferInstance rfl rfl rfl HY rfl rfl rfl|exact ae ⟨rfl,rfl,rfl⟩ rfl inferInstance inferInstance rfl rfl rfl HQ rfl rfl rfl))|((apply az 6;(focus rfl);first|exact al ⟨rfl,rfl⟩ rfl inferInstance rfl rfl rfl rfl HY rfl (aK rfl rfl rfl) rfl HS1|exact al ⟨rfl,rfl⟩ rfl inferInstance rfl rfl rfl rfl HY2 rfl (aK rfl rfl rfl) rfl HS2)))));refine w0 ?_)));all_goals clear kc2 kc1)
               refine ⟨(k + 1,L ++ [x]),⟨by simp only;omega,hG.symm⟩,by simp only;omega,ak (aM 700 701) (ak (aM 701 700) ?_)⟩
               exact ab
             · rw [if_neg (fun h=>hC0 h.2)] at hG
               (have kc1:=hcm;have kc2:=hen;refine w0 ?_;(repeat' (first|refine W2.mk ?_ ?_|refine W1.mk fun hc=>?_|((first|apply aD rfl|apply aF rfl|apply aG rfl|apply aH rfl);(focus (first|((apply az 5;(focus rfl);first|exact aw ⟨rfl,rfl,rfl⟩ rfl inferInstance rfl rfl rfl HYt rfl|exact ae ⟨rfl,rfl,rfl⟩ rfl inferInstance inferInstance rfl rfl rfl HY rfl rfl rfl|exact ae ⟨rfl,rfl,rfl⟩ rfl inferInstance inferInstance rfl rfl rfl HQ rfl rfl rfl))|((apply az 6;(focus rfl);first|exact al ⟨rfl,rfl⟩ rfl inferInstance rfl rfl rfl rfl HY rfl (aK rfl rfl rfl) rfl HS1|exact al ⟨rfl,rfl⟩ rfl inferInstance rfl rfl rfl rfl HY2 rfl (aK rfl rfl rfl) rfl HS2))|(apply bx;(focus rfl);apply ag rfl rfl rfl rfl rfl;first|((apply az 5;(focus rfl);first|exact aw ⟨rfl,rfl,rfl⟩ rfl inferInstance rfl rfl rfl HYt rfl|exact ae ⟨rfl,rfl,rfl⟩ rfl inferInstance inferInstance rfl rfl rfl HY rfl rfl rfl|exact ae ⟨rfl,rfl,rfl⟩ rfl inferInstance inferInstance rfl rfl rfl HQ rfl rfl rfl))|((apply az 6;(focus rfl);first|exact al ⟨rfl,rfl⟩ rfl inferInstance rfl rfl rfl rfl HY rfl (aK rfl rfl rfl) rfl HS1|exact al ⟨rfl,rfl⟩ rfl inferInstance rfl rfl rfl rfl HY2 rfl (aK rfl rfl rfl) rfl HS2)))));refine w0 ?_)));all_goals clear kc2 kc1)
               · rw [if_pos (by omega)] at hG
                 refine ⟨(k + 1,_),⟨by simp only;omega,hG.symm⟩,by simp only;omega,?_⟩
                 exact ab
               · rw [if_neg (by omega)] at hG
                 refine ⟨(k + 1,L),⟨by simp only;omega,hG.symm⟩,by simp only;omega,?_⟩
                 exact ab
       · have hkl:k = Q.length:=by omega
         subst hkl
         have g3:out = R:=by rw [g2,List.take_length];exact hR
         (refine w0 ?_;(repeat' first|refine W2.mk ?_ ?_|refine W1.mk fun hc=>?_))
         refine aQ ?_
         exact dq rfl rfl rfl (by rw [g3])
theorem zc (l:List Rg) (hl:(l.filter eJ).length ≤ 12) (hn:l.length ≤ 1000000000):Fn Tryz.prog 91 [dg l] (wK (oi l)):=by
 have hTr:∀ x ∈ l.filter eJ,eJ x = true:=fun x hx=>(List.mem_filter.1 hx).2
 exact AQ l (dc ltR (l.filter eJ)) (FX _ (fun x hx=>by have:=((bH x).1 (hTr x hx)).1;show x.lo.size ≤ _;omega) hl) (iA _) (fun x hx=>hTr x ((kW oh).1 hx))
   (((cA oh _).1).imp fun {x y} h=>by simp only [ltR,decide_eq_false_iff_not,eM] at h;grind) hn
theorem CB (l:List Rg) (hl:l.length ≤ 12):∃ m,cV m ∧ m.length ≤ l.length ∧ (∀ s,bg m s = bg l s) ∧ Fn Tryz.prog 132 [.per (eB l)] (.per (eB m)):=by
 by_cases hok:cV l
 · refine ⟨l,hok,Nat.le_refl _,fun _=>rfl,?_⟩
   have h1:=jA l (by omega) true (by simp [hok])
   refine fi Tryz.func132 Tryz.ntmps132 ?_
   (have kc1:=h1;refine w0 ?_;(repeat' first|refine W2.mk ?_ ?_|refine W1.mk fun hc=>?_);all_goals clear kc1)
   refine aQ ?_
   exact cu rfl
 · obtain ⟨a1,a2⟩:=oj l
   have a3:=qr l
   refine ⟨oi l,a1,a3,a2,?_⟩
   have h1:=jA l (by omega) false (by simp [hok])
   have h2:=(zc l (by have:=List.length_filter_le eJ l;omega) (by omega)).frz
   refine fi Tryz.func132 Tryz.ntmps132 ?_
   (have kc1:=h1;have kc2:=h2;refine w0 ?_;(repeat' first|refine W2.mk ?_ ?_|refine W1.mk fun hc=>?_);all_goals clear kc2 kc1)
   refine aQ ?_
   exact cu rfl
theorem wM (l:List Rg) (s:ByteArray) (hs:s.size ≤ 1000000000) (hl:l.length ≤ 1000000000) (p:Nat) (hp:p ≤ l.length) (hlt:∀ j (hj:j < l.length),((l[j].op = true ∨ s < l[j].hi) ↔ p ≤ j)) :
   Fn Tryz.prog 133 [.per (eB l),sC s] (fL (p:Nat)):=by
 refine fi Tryz.func133 Tryz.ntmps133 ?_
 (refine w0 ?_;(repeat' first|refine W2.mk ?_ ?_|refine W1.mk fun hc=>?_))
 refine ah (X:=Nat × Nat) (fun z=>z.1 ≤ p ∧ p ≤ z.2 ∧ z.2 ≤ l.length)
   (fun z=>aN [(0,.per (eB l)),(1,sC s),(5,iC .i64 (z.1:Nat)),(6,iC .i64 (z.2:Nat))] []) (fun z=>z.2 - z.1) (0,l.length) ⟨Nat.zero_le _,hp,Nat.le_refl _⟩ ?_ ?_
 · exact ab
 · rintro ⟨i,j⟩ ⟨h1,h2,h3⟩
   simp only at h1 h2 h3 ⊢
   by_cases hij:i < j
   · obtain ⟨h,hh'⟩:∃ h:Nat,(i:Int) + ((j:Int) - (i:Int)) / 2 = (h:Nat):=⟨i + (j - i) / 2,by omega⟩
     have hih:i ≤ h:=by omega
     have hhj:h < j:=by omega
     have hlt':=hlt h (by omega)
     have hmm:=e7 s l[h].hi (by omega)
     clear hlt
     cases ho:l[h].op with
     | true=>
       rw [ho] at hlt'
       have:=hlt'.1 (.inl rfl)
       clear hlt'
       (have ke1:=Lib.hid (hh');have kc1:=hmm;refine bq ?_;(repeat' first|refine W2.mk ?_ ?_|refine W1.mk fun hc=>?_);all_goals clear kc1 ke1)
       all_goals first|(exfalso;simp_all;done)|skip
       refine ⟨(i,h),⟨h1,by simp only;omega,by simp only;omega⟩,by simp only;omega,?_⟩
       exact ab
     | false=>
       rw [ho] at hlt'
       have hq:bG s l[h].hi < 0 ↔ p ≤ h:=by rw [← hlt',eM];simp
       clear hlt'
       (have ke1:=Lib.hid (hh');have kc1:=hmm;refine bq ?_;(repeat' first|refine W2.mk ?_ ?_|refine W1.mk fun hc=>?_);all_goals clear kc1 ke1)
       all_goals first|(exfalso;simp_all;done)|skip
       · refine ⟨(i,h),⟨h1,by simp only;omega,by simp only;omega⟩,by simp only;omega,?_⟩
         exact ab
       · refine ⟨(h + 1,j),⟨by simp only;omega,h2,h3⟩,by simp only;omega,?_⟩
         exact ab
   · obtain rfl:i = p:=by omega
     (refine w0 ?_;(repeat' first|refine W2.mk ?_ ?_|refine W1.mk fun hc=>?_))
     refine aQ ?_
     exact aA rfl rfl
theorem AR (l:List Rg) (s:ByteArray) (hl:l.length ≤ 12) (hs:s.size ≤ 1000000000):Fn Tryz.prog 80 [.per (eB l),sC s] (bO (bg l s)):=by
 obtain ⟨m,hok,hml,hany,h1⟩:=CB l hl
 obtain ⟨p,hp,hlt⟩:=AA hok s
 have h2:=wM m s hs (by omega) p hp hlt
 have hA:=Fr hok hlt
 rw [hany] at hA
 rw [hA]
 clear hA hany hlt hok
 by_cases hn:p < m.length
 · have h3:=nd m[p] s hs
   rw [List.getElem?_eq_getElem hn]
   simp only
   refine fi Tryz.func80 Tryz.ntmps80 ?_
   (have kc1:=h1;have kc2:=h2;have kc3:=h3;refine w0 ?_;(repeat' first|refine W2.mk ?_ ?_|refine W1.mk fun hc=>?_);all_goals clear kc3 kc2 kc1)
   refine aQ ?_
   exact af rfl rfl
 · rw [List.getElem?_eq_none (by omega)]
   simp only
   refine fi Tryz.func80 Tryz.ntmps80 ?_
   (have kc1:=h1;have kc2:=h2;refine w0 ?_;(repeat' first|refine W2.mk ?_ ?_|refine W1.mk fun hc=>?_);all_goals clear kc2 kc1)
   refine aQ ?_
   exact af rfl rfl
end
end Go.Proofs.YtembiemaiacdfaaGreat
