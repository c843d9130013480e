/- Texts joined: SwP SwW SrtR RgW. -/
import Derived.Test.YtembiemaiacdfaaGreatJ20
import Derived.Test.YtembiemaiacdfaaGreatJ22
import Derived.Test.YtembiemaiacdfaaGreatJ05
import Derived.Test.YtembiemaiacdfaaGreatJ15
import Derived.Test.YtembiemaiacdfaaGreatJ21
import Derived.Test.YtembiemaiacdfaaGreatJ16
set_option maxRecDepth 10000
set_option maxHeartbeats 8000000
namespace Go.Proofs.YtembiemaiacdfaaGreat
open Go.RowKit
theorem sk (r c:Int):fD [] r c = false:=by unfold fD aQ cw;simp
theorem jw:∀ {k:List Pc},bd k → ∀ (s:ByteArray) (r c:Int),bZ k s r c = fD (cE k s) r c:=by
 intro k
 induction k with
 | nil=>intro _ s r c;rw [kM,sk];rfl
 | cons p l ih=>
   intro h s r c
   have hl:=((ce p l).1 h).2.2
   have e:bZ (p :: l) s r c = ((bR p.rg s && fD p.set r c) || bZ l s r c):=rfl
   rw [e,ih hl]
   by_cases q:bR p.rg s = true
   · have hn:cE l s = []:=by
       by_cases g:cE l s = []
       · exact g
       · obtain ⟨g1,g2⟩:=js h g
         have hr:=(b9 ((ce p l).1 h).1.1 s).1 q
         rcases hr.2 with q2|q2
         · rw [g1] at q2;cases q2
         · grind
     rw [q,gR q,hn,sk];simp
   · rw [dH q,Bool.eq_false_iff.2 q];simp
theorem jx {s:List Kn} {r c:Int}:fD s r c = true ↔ dF r c = true ∧ dS (aQ s (r - 1).toNat) c:=by
 unfold fD
 rw [Bool.and_eq_true,fO]
theorem qu {r c:Int} (h:dF r c = true):1 ≤ r ∧ r ≤ 16:=by
 unfold dF at h
 simp at h
 omega
theorem E7 {a b:List Kn} {r c:Int}:fD (fa ofR (a ++ b)) r c = true ↔ fD a r c = true ∨ fD b r c = true:=by
 rw [jx,jx,jx]
 constructor
 · rintro ⟨h1,h2⟩
   have:=qu h1
   rw [mc _ (by omega),fk,oc,iq] at h2
   rcases h2 with h2|h2
   · exact .inl ⟨h1,h2⟩
   · exact .inr ⟨h1,h2⟩
 · intro h
   have h1:dF r c = true:=by rcases h with h|h <;> exact h.1
   have:=qu h1
   refine ⟨h1,?_⟩
   rw [mc _ (by omega),fk,oc,iq]
   rcases h with h|h
   · exact .inl h.2
   · exact .inr h.2
theorem E8:fa ofR [] = []:=mX gZ
theorem yt {a b:List Pc} (ha:bd a) (hb:bd b) (s:ByteArray) (r c:Int):bZ (wP (a ++ b)) s r c = (bZ a s r c || bZ b s r c):=by
 obtain ⟨h1,h2⟩:=tF (a ++ b)
 rw [Bool.eq_iff_iff,Bool.or_eq_true,jw h1,h2,ym,E7,jw ha,jw hb,gU ha,gU hb]
def dI (l:List It) (f:List Rg) (k:List Pc):List It:=l.filter fun x=>bn f x.key && !bZ k x.key x.rep x.cnt
def gF (x:It):List It → List It
 | []=>[x]
 | y :: l=>if bO y.key x.key < 0 then y :: gF x l else x :: (y :: l).filter fun z=>decide (z.key ≠ x.key)
theorem v7:∀ (l:List It) (x z:It),z ∈ gF x l → z = x ∨ (z ∈ l ∧ z.key ≠ x.key):=by
 intro l
 induction l with
 | nil=>intro x z h;rw [gF] at h;simp at h;exact .inl h
 | cons y l ih=>
   intro x z h
   rw [gF] at h
   split at h
   · rename_i hc
     rcases List.mem_cons.1 h with rfl|h
     · exact .inr ⟨List.mem_cons_self,fun e=>by rw [e,(j4 _ _).2 rfl] at hc;omega⟩
     · rcases ih x z h with q|⟨q,r⟩
       · exact .inl q
       · exact .inr ⟨List.mem_cons_of_mem _ q,r⟩
   · rcases List.mem_cons.1 h with rfl|h
     · exact .inl rfl
     · obtain ⟨q,r⟩:=List.mem_filter.1 h
       exact .inr ⟨q,by simpa using r⟩
theorem zS:∀ (l:List It) (x:It),Up l → Up (gF x l):=by
 intro l
 induction l with
 | nil=>intro x _;rw [gF];exact List.pairwise_singleton _ _
 | cons y l ih=>
   intro x h
   have h':=List.pairwise_cons.1 h
   rw [gF]
   split
   · rename_i hc
     refine List.pairwise_cons.2 ⟨fun z hz=>?_,ih x h'.2⟩
     rcases v7 l x z hz with rfl|⟨q,_⟩
     · exact gI.2 hc
     · exact h'.1 z q
   · rename_i hc
     refine List.pairwise_cons.2 ⟨fun z hz=>?_,List.Pairwise.filter _ h⟩
     obtain ⟨q,r⟩:=List.mem_filter.1 hz
     have r:z.key ≠ x.key:=by simpa using r
     have hyx:ltK y x = false:=by
       cases w:ltK y x with
       | false=>rfl
       | true=>exact absurd (gI.1 w) hc
     rcases List.mem_cons.1 q with rfl|q
     · exact tN hyx r.symm
     · by_cases e:y.key = x.key
       · have:=h'.1 z q
         rw [gI] at this ⊢
         rw [← e];exact this
       · exact de.tr _ _ _ (tN hyx (fun w=>e w.symm)) (h'.1 z q)
theorem Br {k:ByteArray} {x:It} {l:List It} (hk:k ≠ x.key):dg k (l.filter fun z=>decide (z.key ≠ x.key)) = dg k l:=by
 unfold dg
 congr 1
 rw [List.filter_filter]
 refine List.filter_congr fun z _=>?_
 by_cases e:z.key = k
 · have:z.key ≠ x.key:=fun w=>hk (e.symm.trans w)
   simp [e,hk]
 · have:(z.key == k) = false:=by rw [← Bool.not_eq_true,jb];exact e
   rw [this];rfl
theorem Bt:∀ (l:List It) (x:It) (k:ByteArray),Up l → dg k (gF x l) = if x.key = k then some x else dg k l:=by
 intro l
 induction l with
 | nil=>
   intro x k _
   rw [gF,gx]
   by_cases e:x.key = k
   · rw [if_pos e,if_pos (by rw [jb];exact e)]
   · rw [if_neg e,if_neg (by rw [jb];exact e)];rfl
 | cons y l ih=>
   intro x k h
   have h':=List.pairwise_cons.1 h
   rw [gF]
   split
   · rename_i hc
     have hne:y.key ≠ x.key:=fun e=>by rw [e,(j4 _ _).2 rfl] at hc;omega
     rw [show y :: gF x l = [y] ++ gF x l from rfl,fv,ih x k h'.2,show y :: l = [y] ++ l from rfl,fv]
     by_cases e:x.key = k
     · rw [if_pos e,if_pos e,gx,if_neg (by rw [jb];exact fun w=>hne (w.trans e.symm))];rfl
     · rw [if_neg e,if_neg e]
   · rw [show x :: (y :: l).filter (fun z=>decide (z.key ≠ x.key)) = [x] ++ (y :: l).filter (fun z=>decide (z.key ≠ x.key)) from rfl,fv,gx]
     by_cases e:x.key = k
     · rw [if_pos e,if_pos (by rw [jb];exact e),oe (fun z hz=>by
         obtain ⟨_,r⟩:=List.mem_filter.1 hz
         have r:z.key ≠ x.key:=by simpa using r
         exact fun w=>r (w.trans e.symm))];rfl
     · rw [if_neg e,if_neg (by rw [jb];exact e),Br (fun w=>e w.symm)];rfl
theorem Bu {x:It} {l:List It} (hx:fx x = true) (hl:l.all fx = true) (hu:Up l) (hr:∀ y ∈ l,y.key = x.key → y.rank < x.rank):j3 [[x],l] = gF x l:=by
 refine (Up.uniq (zS l x hu) (oE _).1 fun k=>?_).symm
 have hf:([[x],l]:List (List It)).flatten.filter fx = [x] ++ l:=by
   have:([[x],l]:List (List It)).flatten = [x] ++ l:=by simp
   rw [this,List.filter_eq_self]
   intro z hz
   rw [List.mem_append,List.mem_singleton] at hz
   rcases hz with rfl|hz
   · exact hx
   · exact List.all_eq_true.1 hl z hz
 rw [(oE _).2.2,hf,fv,Bt l x k hu,gx]
 by_cases e:x.key = k
 · rw [if_pos e,if_pos (by rw [jb];exact e)]
   have h1:=hu.filter k
   cases h2:dg k l with
   | none=>rfl
   | some z=>
     rw [h2] at h1
     have hz:z ∈ l.filter (fun x=>x.key == k):=by rw [h1];simp
     obtain ⟨q,r⟩:=List.mem_filter.1 hz
     rw [jb] at r
     have:=hr z q (r.trans e.symm)
     have hn:¬ pO z x > 0:=by rw [m6];omega
     simp only [od]
     rw [if_neg hn]
 · rw [if_neg e,if_neg (by rw [jb];exact e)];rfl
def iu (l:List It) (k:ByteArray):Option It:=l.find? fun x=>decide (x.key = k)
def iQ (l:List It) (k:ByteArray):Int:=match iu l k with|some x=>x.rank|none=>0
def jf (k:ByteArray) (r c:Int):List Pc:=if fy k && dF r c then [⟨⟨k,k ++ ⟨#[0]⟩,false⟩,[⟨r,[⟨c,c⟩]⟩]⟩] else []
def lw (s:Sta) (k:ByteArray) (prio:Int) (dead:Bool) (body:ByteArray):It:=⟨k,s.id,s.cnt + 1,iQ s.its k + 1,prio,dead,body⟩
def yu (s:Sta) (x:It):Sta:=⟨s.id,s.flt,gF x s.its,wP (s.know ++ jf x.key x.rep x.cnt),s.cnt + 1⟩
def j7 (s:Sta) (k:ByteArray) (prio:Int) (body:ByteArray):Sta × Int:=
 if ko s = false then ({},41)
 else if fy k = false ∨ prio < 0 ∨ prio > 255 ∨ body.size > 64 then ({},2)
 else if bn s.flt k = false then ({},30)
 else if s.cnt = 1099511627776 ∨ iQ s.its k = 1099511627776 then ({},33)
 else if iu s.its k = none ∧ s.its.length = 4096 then ({},32)
 else (yu s (lw s k prio false body),0)
def JA (x y:Rg):Int:=bO x.lo y.lo
def Ke (x:Rg):Prop:=x.lo.size ≤ 1000000000
section
theorem LU (x y:Rg) (hx:Ke x) (hy:Ke y):dY Tryz.prog 144 [GQ x,GQ y] [] (.per (ao (.int .i64 (JA x y)))) []:=by
 obtain ⟨xl,xh,xo⟩:=x
 obtain ⟨yl,yh,yo⟩:=y
 have h1:=eD xl yl (by have:xl.size ≤ 1000000000:=hx;omega)
 show dY Tryz.prog _ [.per (bW [ao (.string xl),ao (.string xh),ao (.bool xo)]),.per (bW [ao (.string yl),ao (.string yh),ao (.bool yo)])] [] (.per (ao (.int .i64 (bO xl yl)))) []
 refine eT Tryz.func144 Tryz.ntmps144 ?_
 (have kc1:=h1;refine w0 ?_;(repeat' first|refine W2.mk ?_ ?_|refine W1.mk fun hc=>?_);all_goals clear kc1)
 (refine ⟨(by first|exact .inl rfl|exact .inr rfl),bS [] rfl rfl .nil ?_⟩)
 exact aY rfl rfl
end
abbrev oG:Cnt:=.per (ao (.func (.func 144) #[] #[]))
abbrev gK (l:List Rg):Blk:=.row 82 3 (l.map rgP)
def tS (l:List Rg):Prop:=∀ x ∈ l,Ke x
section
theorem Bv (A M Z:List Rg) (hk:tS M) (hl:(A ++ M ++ Z).length ≤ 1000000000):dY Tryz.prog 215 [.row 1000 0,iC .i64 (A.length:Nat),iC .i64 ((A.length + M.length:Nat):Int),oG] [(1000,gK (A ++ M ++ Z))] .any [(1000,gK (A ++ cz ltR M ++ Z))]:=by
 generalize hR:A ++ cz ltR M ++ Z = R
 generalize hb:A.length + M.length = b
 simp only [List.length_append] at hl
 refine eT Tryz.func215 Tryz.ntmps215 ?_
 (refine w0 ?_;(repeat' first|refine W2.mk ?_ ?_|refine W1.mk fun hc=>?_))
 refine ah (X:=Nat × List Rg × List Rg) (fun x=>A.length < x.1 ∧ x.1 ≤ b + 1 ∧ A.length + x.2.1.length = min x.1 b ∧ A.length + x.2.1.length + x.2.2.length = b ∧ tS x.2.1 ∧ tS x.2.2 ∧ A ++ x.2.2.foldl (fP ltR) x.2.1 ++ Z = R)
   (fun x=>aJ [(0,.row 1000 0),(1,iC .i64 (A.length:Nat)),(2,iC .i64 (b:Nat)),(3,oG),(8,iC .i64 (x.1:Nat))] [(1000,gK (A ++ x.2.1 ++ (x.2.2 ++ Z)))]) (fun x=>b + 1 - x.1) (A.length + 1,M.take 1,M.drop 1) ?_ ?_ ?_
 · refine ⟨by simp only;omega,by simp only;omega,by simp only [List.length_take];omega,by simp only [List.length_take,List.length_drop];omega,fun x h=>hk x (List.mem_of_mem_take h),fun x h=>hk x (List.mem_of_mem_drop h),?_⟩
   rw [← hR]
   cases M with
   | nil=>rfl
   | cons x M=>rfl
 · have e:A ++ M.take 1 ++ (M.drop 1 ++ Z) = A ++ M ++ Z:=by
     rw [List.append_assoc,← List.append_assoc (M.take 1),List.take_append_drop,List.append_assoc]
   rw [e]
   exact ab
 · rintro ⟨i,p,q⟩ ⟨h1,h2,h3,h4,hkp,hkq,h5⟩
   simp only at h1 h2 h3 h4 hkp hkq h5 ⊢
   by_cases hlt:i < b
   · obtain ⟨x,q,rfl⟩:∃ x q',q = x :: q':=by
       cases q with
       | nil=>simp at h4;omega
       | cons x q=>exact ⟨x,q,rfl⟩
     have hip:A.length + p.length = i:=by omega
     clear h3
     have hkx:=hkq x (by simp)
     simp only [List.length_cons,List.foldl_cons] at h4 h5
     (repeat' (first|refine cl ?_|refine bh ?_|refine bx ?_|refine bz ?_|refine cm ?_|refine aW ?_|refine cj ?_|refine ck (by kernel_rfl) ?_|(refine eU rfl rfl ⟨fun hc=>?_,fun hc=>?_⟩ <;> (repeat rw [List.length_map] at hc) <;> (try exact cP hc))|((first|apply aB rfl|apply aC rfl|apply aD rfl|apply aF rfl);focus (first|exact dn|fail))|refine bB ?_|refine bD ?_|refine bF ?_|refine dv ?_|refine dw ?_|refine bG ?_|refine bi rfl ?_|((first|refine eV rfl rfl rfl ⟨fun hc=>?_,fun hc=>?_⟩|refine eW rfl rfl rfl ⟨fun hc=>?_,fun hc=>?_⟩) <;> (fail_if_success (have q:(true = true):=hc)) <;> (fail_if_success (have q:(false = false):=hc)) <;> (repeat rw [List.length_map] at hc) <;> (try exact cP hc))|refine aZ rfl rfl (fun hc=>?_) ?_))
     refine ah (X:=List Rg × List Rg) (fun y=>y.1.length + y.2.length = p.length ∧ tS y.1 ∧ tS y.2 ∧ iE ltR x y.1.reverse y.2 = fP ltR p x)
       (fun y=>aJ [(0,.row 1000 0),(1,iC .i64 (A.length:Nat)),(2,iC .i64 (b:Nat)),(3,oG),(8,iC .i64 (i:Nat)),(9,iC .i64 ((A.length + y.1.length:Nat):Int))] [(1000,gK (A ++ y.1 ++ x :: (y.2 ++ (q ++ Z))))]) (fun y=>y.1.length) (p,[]) ⟨by simp,hkp,fun x h=>by simp at h,rfl⟩ ?_ ?_
     · subst hip
       exact ab
     · rintro ⟨p1,p2⟩ ⟨g1,gk1,gk2,g2⟩
       simp only at g1 gk1 gk2 g2 ⊢
       have out:fP ltR p x = p1 ++ x :: p2 → (∃ z:Nat × List Rg × List Rg,(A.length < z.1 ∧ z.1 ≤ b + 1 ∧ A.length + z.2.1.length = min z.1 b ∧ A.length + z.2.1.length + z.2.2.length = b ∧ tS z.2.1 ∧ tS z.2.2 ∧ A ++ z.2.2.foldl (fP ltR) z.2.1 ++ Z = R) ∧ z = (i + 1,p1 ++ x :: p2,q)):=fun e=>by
         refine ⟨_,⟨by simp only;omega,by simp only;omega,by simp;omega,by simp;omega,fun y hy=>?_,fun y hy=>hkq y (by simp [hy]),by rw [← e];exact h5⟩,rfl⟩
         rcases List.mem_append.1 hy with h|h
         · exact gk1 y h
         · rcases List.mem_cons.1 h with h|h
           · subst h;exact hkx
           · exact gk2 y h
       have hL0:A ++ p1 ++ x :: (p2 ++ (q ++ Z)) = A ++ (p1 ++ x :: p2) ++ (q ++ Z):=by simp
       rcases dQ p1 with rfl|⟨p1',y,rfl⟩
       · have e:fP ltR p x = [] ++ x :: p2:=by rw [← g2];rfl
         obtain ⟨z,hz,rfl⟩:=out e
         rw [hL0]
         (refine w0 ?_;(repeat' first|refine W2.mk ?_ ?_|refine W1.mk fun hc=>?_))
         refine ⟨_,hz,by simp only;omega,?_⟩
         exact ab
       · obtain ⟨j,hj⟩:∃ j,A.length + p1'.length = j:=⟨_,rfl⟩
         have hj1:A.length + (p1' ++ [y]).length = j + 1:=by simp;omega
         have hky:=gk1 y (by simp)
         have hm:=LU x y hkx hky
         generalize hL:A ++ (p1' ++ [y]) ++ x :: (p2 ++ (q ++ Z)) = L at *
         have hlen:j + 1 < L.length:=by rw [← hL];simp;omega
         have HJ:(L.map rgP)[j + 1]? = some (rgP x):=by
           rw [List.getElem?_map,← hL,List.getElem?_append_right (by simp;omega),List.length_append,hj1,Nat.sub_self];rfl
         have HJ1:(L.map rgP)[j]? = some (rgP y):=by
           rw [List.getElem?_map,← hL,List.append_assoc,List.append_assoc,List.getElem?_append_right (by omega),List.getElem?_append_right (by omega)]
           rw [show j - A.length - p1'.length = 0 by omega];rfl
         rw [hj1]
         have hrev:(p1' ++ [y]).reverse = y :: p1'.reverse:=by simp
         rw [hrev,iE] at g2
         have HS1:(L.map rgP).set (j + 1) (bL (rgP x) 0 (rgP y)) = (L.set (j + 1) y).map rgP:=by rw [← bj];rfl
         have HJ2:((L.set (j + 1) y).map rgP)[j]? = some (rgP y):=by
           rw [← bj,List.getElem?_set_ne (by omega)];exact HJ1
         have HS2:((L.set (j + 1) y).map rgP).set j (bL (rgP y) 0 (rgP x)) = (A ++ p1' ++ x :: ((y :: p2) ++ (q ++ Z))).map rgP:=by
           rw [bj rgP (L.set (j + 1) y) j x |>.symm.trans rfl |> fun h=>(show ((L.set (j + 1) y).map rgP).set j (bL (rgP y) 0 (rgP x)) = ((L.set (j + 1) y).set j x).map rgP from bj rgP _ j x)]
           rw [← hL,dA (A ++ (p1' ++ [y])) x y _ (j + 1) (by simp;omega),show A ++ (p1' ++ [y]) ++ y :: (p2 ++ (q ++ Z)) = (A ++ p1') ++ y :: (y :: (p2 ++ (q ++ Z))) by simp,dA (A ++ p1') y x _ j (by simp;omega)]
           simp
         by_cases hxy:JA x y < 0
         · rw [if_pos (show ltR x y = true from decide_eq_true hxy)] at g2
           clear out
           (refine w0 ?_;(repeat' (first|refine W2.mk ?_ ?_|refine W1.mk fun hc=>?_|((first|apply aB rfl|apply aC rfl|apply aD rfl|apply aF rfl);(focus (first|((apply ax 5;(focus rfl);first|exact ae ⟨rfl,rfl,rfl⟩ rfl inferInstance inferInstance rfl rfl rfl HJ rfl rfl rfl|exact ae ⟨rfl,rfl,rfl⟩ rfl inferInstance inferInstance rfl rfl rfl HJ1 rfl rfl rfl))|((apply ax 6;(focus rfl);first|exact al ⟨rfl,rfl⟩ rfl inferInstance rfl rfl rfl rfl HJ rfl (.inl rfl) rfl HS1|exact al ⟨rfl,rfl⟩ rfl inferInstance rfl rfl rfl rfl HJ2 rfl (.inl rfl) rfl HS2))|(exact nv [] hm)|(apply bt;(focus rfl);apply ag rfl rfl rfl rfl rfl;first|((apply ax 5;(focus rfl);first|exact ae ⟨rfl,rfl,rfl⟩ rfl inferInstance inferInstance rfl rfl rfl HJ rfl rfl rfl|exact ae ⟨rfl,rfl,rfl⟩ rfl inferInstance inferInstance rfl rfl rfl HJ1 rfl rfl rfl))|((apply ax 6;(focus rfl);first|exact al ⟨rfl,rfl⟩ rfl inferInstance rfl rfl rfl rfl HJ rfl (.inl rfl) rfl HS1|exact al ⟨rfl,rfl⟩ rfl inferInstance rfl rfl rfl rfl HJ2 rfl (.inl rfl) rfl HS2))|(exact nv [] hm))));refine w0 ?_))))
           refine ⟨(p1',y :: p2),⟨by simp at g1 ⊢;omega,fun z h=>gk1 z (by simp [h]),fun z h=>?_,g2⟩,by simp,?_⟩
           · rcases List.mem_cons.1 h with h|h
             · subst h;exact hky
             · exact gk2 z h
           · simp only [hj]
             exact ab
         · rw [if_neg (show ¬ ltR x y = true by unfold ltR;rw [decide_eq_true_iff];exact hxy)] at g2
           have e:fP ltR p x = (p1' ++ [y]) ++ x :: p2:=by rw [← g2];simp
           obtain ⟨z,hz,rfl⟩:=out e
           (refine w0 ?_;(repeat' (first|refine W2.mk ?_ ?_|refine W1.mk fun hc=>?_|((first|apply aB rfl|apply aC rfl|apply aD rfl|apply aF rfl);(focus (first|((apply ax 5;(focus rfl);first|exact ae ⟨rfl,rfl,rfl⟩ rfl inferInstance inferInstance rfl rfl rfl HJ rfl rfl rfl|exact ae ⟨rfl,rfl,rfl⟩ rfl inferInstance inferInstance rfl rfl rfl HJ1 rfl rfl rfl))|(exact nv [] hm)|(apply bt;(focus rfl);apply ag rfl rfl rfl rfl rfl;first|((apply ax 5;(focus rfl);first|exact ae ⟨rfl,rfl,rfl⟩ rfl inferInstance inferInstance rfl rfl rfl HJ rfl rfl rfl|exact ae ⟨rfl,rfl,rfl⟩ rfl inferInstance inferInstance rfl rfl rfl HJ1 rfl rfl rfl))|(exact nv [] hm))));refine w0 ?_))))
           refine ⟨_,hz,by simp only;omega,?_⟩
           simp only
           rw [← hL0]
           exact ab
   · have hq:q = []:=List.eq_nil_of_length_eq_zero (by omega)
     subst hq
     simp only [List.foldl_nil] at h5
     (refine w0 ?_;(repeat' first|refine W2.mk ?_ ?_|refine W1.mk fun hc=>?_))
     rw [List.nil_append,h5]
     (refine ⟨(by first|exact .inl rfl|exact .inr rfl),bu [(1000,1000)] rfl rfl ?_⟩;(focus (repeat (first|exact ar.nil|(refine ar.cons rfl ?_ ?_;(focus first|rfl|skip))))))
end
section
variable {P:Program} {n:Nat} {ops:Array Oper} {o:Oper} {S:St} {t:Nat}
def rA (k:Nat):Nat:=if k = 0 then 0 else k.log2 + 1
def Kf:List UInt8:=(List.range 256).map fun k=>UInt8.ofNat (rA k)
theorem E9:∀ k:Fin 256,(Kf[k.val]?).map UInt8.toNat = some (rA k.val):=by decide +kernel
theorem Fa {ty:TypeId} {x ix:Operand} {kk:IntKind} {k:Nat} {z:Int} {s:ByteArray} (hp:Pl n o t) (ho:o.op = .index ty x ix) (hT:dC P ty .string) (hx:S.opd x = sC s) (hs:s.data.toList = Kf) (hi:S.opd ix = iC kk z) (hz:z = (k:Int)) (hk:k < 256) :
   ak n P ops o (ap x ++ ap ix) (iC .u8 ((rA k:Nat):Int)) [] S:=by
 have h:=E9 ⟨k,hk⟩
 simp only at h
 cases hc:Kf[k]? with
 | none=>rw [hc] at h;cases h
 | some c=>
   rw [hc] at h
   simp only [Option.map_some,Option.some.injEq] at h
   rw [← h]
   exact gk hp ho hT hx hi (i:=k) hz (by rw [hs];exact hc)
theorem Bw {Q:Exit → St → Prop} {x y:Code} (h:AW P n y Q S):AW P n (.cond (.const (.bool false)) x y) Q S:=
 ⟨fun C a w hr=>wp_cond_split (t:=false) rfl (fun h=>by cases h) (fun _=>h.run C a w hr)⟩
theorem zT {z:Nat} (h:z < 256):IntKind.u8.wrap (z:Int) = (z:Int):=by
 simp [IntKind.wrap,IntKind.bits,IntKind.signed];omega
end
section
theorem IG {k:Nat} (h:k < 256):rA k ≤ 8:=by
 have:∀ k:Fin 256,rA k.val ≤ 8:=by decide +kernel
 exact this ⟨k,h⟩
theorem yv (k:Nat) (hk:k < 256):Fn Tryz.prog 224 [iC .u64 (k:Nat)] (ig ((rA k:Nat):Int)):=by
 have hb:=IG hk
 have e:(0:Int) + ((rA k:Nat):Int) = ((rA k:Nat):Int):=by omega
 have c1:((k:Nat):Int) < 256:=by omega
 refine fi Tryz.func224 Tryz.ntmps224 ?_
 (repeat' (first|refine cl ?_|refine bh ?_|refine bx ?_|refine bz ?_|refine cm ?_|refine aW ?_|refine cv dm ?_|refine cj ?_|refine ck (by kernel_rfl) ?_|(refine eU rfl rfl ⟨fun hc=>?_,fun hc=>?_⟩ <;> (repeat rw [List.length_map] at hc) <;> (try exact cP hc))|((first|apply aB rfl|apply aC rfl|apply aD rfl|apply aF rfl);focus (first|((apply ax 13;(focus rfl);exact Fa (k:=k) ⟨rfl,rfl,rfl⟩ rfl inferInstance rfl (by decide +kernel) rfl (zT hk) hk))|(apply bt;(focus rfl);apply ag rfl rfl rfl rfl rfl;((apply ax 13;(focus rfl);exact Fa (k:=k) ⟨rfl,rfl,rfl⟩ rfl inferInstance rfl (by decide +kernel) rfl (zT hk) hk)))|((apply ax 8;(focus rfl);exact fH ⟨rfl,rfl,rfl⟩ rfl rfl rfl rfl ((bP (by omega) (by omega)).trans e)))|(apply bt;(focus rfl);apply ag rfl rfl rfl rfl rfl;((apply ax 8;(focus rfl);exact fH ⟨rfl,rfl,rfl⟩ rfl rfl rfl rfl ((bP (by omega) (by omega)).trans e))))|exact dn|fail))|refine bB ?_|refine bD ?_|refine bF ?_|refine dv ?_|refine dw ?_|refine bG ?_|refine bi rfl ?_|((first|refine eV rfl rfl rfl ⟨fun hc=>?_,fun hc=>?_⟩|refine eW rfl rfl rfl ⟨fun hc=>?_,fun hc=>?_⟩) <;> (fail_if_success (have q:(true = true):=hc)) <;> (fail_if_success (have q:(false = false):=hc)) <;> (repeat rw [List.length_map] at hc) <;> (try exact cP hc))|refine aZ rfl rfl (fun hc=>?_) ?_))
 refine aO ?_
 exact az rfl rfl
theorem Fb (k:Nat) (hk:k < 256):Fn Tryz.prog 189 [iC .u64 (k:Nat)] (ig ((rA k:Nat):Int)):=by
 have h:=yv k hk
 refine fi Tryz.func189 Tryz.ntmps189 ?_
 (refine w0 ?_;(repeat' first|refine W2.mk ?_ ?_|refine W1.mk fun hc=>?_))
 refine Bw ?_
 (have kc1:=h;have kh1:=Lib.hid (show (0:Int) / 2 = 0 from rfl);refine bm ?_;(repeat' first|refine W2.mk ?_ ?_|refine W1.mk fun hc=>?_);all_goals clear kh1 kc1)
 refine aO ?_
 exact az rfl rfl
theorem IH (M:List Rg) (lim:Int) (hk:tS M) (hl:M.length ≤ 12):dY Tryz.prog 188 [.row 1000 0,iC .i64 0,iC .i64 (M.length:Nat),iC .i64 lim,oG] [(1000,gK M)] .any [(1000,gK (cz ltR M))]:=by
 have h:=Bv [] M [] hk (by simp;omega)
 simp only [List.nil_append,List.append_nil,List.length_nil,Nat.zero_add] at h
 generalize cz ltR M = R at *
 have e:((M.length:Nat):Int) - 0 = ((M.length:Nat):Int):=by omega
 refine eT Tryz.func188 Tryz.ntmps188 ?_
 (have km1:=(show bp [(1000,1000)] _ _ _ _ _ _ from h);have ke1:=Lib.hid (e);refine bm ?_;(repeat' first|refine W2.mk ?_ ?_|refine W1.mk fun hc=>?_);all_goals clear ke1 km1)
 refine ah (X:=Unit) (fun _=>True) (fun _=>aJ [(0,.row 1000 0),(1,iC .i64 0),(2,iC .i64 (M.length:Nat)),(3,iC .i64 lim),(4,oG)] [(1000,gK M)]) (fun _=>0) () trivial ?_ ?_
 · exact ab
 · rintro _ -
   (have km1:=(show bp [(1000,1000)] _ _ _ _ _ _ from h);have ke1:=Lib.hid (e);refine bm ?_;(repeat' first|refine W2.mk ?_ ?_|refine W1.mk fun hc=>?_);all_goals clear ke1 km1)
   (refine ⟨(by first|exact .inl rfl|exact .inr rfl),bu [(1000,1000)] rfl rfl ?_⟩;(focus (repeat (first|exact ar.nil|(refine ar.cons rfl ?_ ?_;(focus first|rfl|skip))))))
theorem Fc (M:List Rg) (hk:tS M) (hl:M.length ≤ 12):dY Tryz.prog 143 [.row 1000 0,oG] [(1000,gK M)] .any [(1000,gK (cz ltR M))]:=by
 have h1:=Fb M.length (by omega)
 have h:=IH M ((rA M.length:Nat):Int) hk hl
 generalize cz ltR M = R at *
 refine eT Tryz.func143 Tryz.ntmps143 ?_
 (have kc1:=h1;have km1:=(show bp [(1000,1000)] _ _ _ _ _ _ from h);have kh1:=Lib.hid (show (0:Int) / 2 = 0 from rfl);refine bm ?_;(repeat' first|refine W2.mk ?_ ?_|refine W1.mk fun hc=>?_);all_goals clear kh1 km1 kc1)
 (refine ⟨(by first|exact .inl rfl|exact .inr rfl),bu [(1000,1000)] rfl rfl ?_⟩;(focus (repeat (first|exact ar.nil|(refine ar.cons rfl ?_ ?_;(focus first|rfl|skip))))))
end
abbrev v8 (l:List Rg):Ret:=.own 82 3 (l.map rgP)
theorem wa {Q:List Rg} {k:Nat} (hk:k < Q.length):fB (Q.take (k + 1)) = wO (fB (Q.take k)) Q[k]:=by
 unfold fB;rw [List.take_succ_eq_append_getElem hk,List.foldl_append];rfl
theorem Bx {Q:List Rg} (hR:∀ r ∈ Q,eo r = true) (hS:Q.Pairwise (fun x y=>x.lo ≤ y.lo)) (k:Nat):∀ r ∈ fB (Q.take k),eo r = true:=by
 intro r hr
 have h:=(vN (L:=Q.take k) (fun x hx=>hR x (List.mem_of_mem_take hx)) (hS.sublist (List.take_sublist _ _))).1
 obtain ⟨i,hi,rfl⟩:=List.getElem_of_mem hr
 exact (h i hi).1
theorem II (Q:List Rg) (k:Nat):(fB (Q.take k)).length ≤ k:=by
 have h:=Ex (Q.take k) []
 rw [List.length_take] at h
 simp only [List.length_nil] at h
 unfold fB
 omega
section
theorem zU (l Q:List Rg) (hs:dY Tryz.prog 143 [.row 1000 0,oG] [(1000,gK (l.filter eo))] .any [(1000,gK Q)]) (hql:Q.length = (l.filter eo).length)
   (hQr:∀ x ∈ Q,eo x = true) (hQs:Q.Pairwise fun x y=>x.lo ≤ y.lo) (hn:l.length ≤ 1000000000):Fn Tryz.prog 91 [db l] (v8 (fB Q)):=by
 generalize hT:l.filter eo = T at *
 have hTl:T.length ≤ 1000000000:=by rw [← hT];exact Nat.le_trans (List.length_filter_le _ _) hn
 generalize hR:fB Q = R
 refine fi Tryz.func91 Tryz.ntmps91 ?_
 (refine w0 ?_;(repeat' first|refine W2.mk ?_ ?_|refine W1.mk fun hc=>?_))
 refine cc (bv 3 600 82 3 rfl rfl) ?_
 refine ah (X:=Nat × List Rg) (fun x=>x.1 ≤ l.length ∧ x.2 ++ (l.drop x.1).filter eo = T)
   (fun x=>aJ [(3,.row 600 0),(10,db l),(11,iC .i64 (l.length:Nat)),(12,iC .i64 (x.1:Nat))] [(600,gK x.2)]) (fun x=>l.length - x.1) (0,[]) ⟨Nat.zero_le _,by simp [hT]⟩ ?_ ?_
 · exact ab
 · rintro ⟨k,ac⟩ ⟨g1,g2⟩
   simp only at g1 g2 ⊢
   by_cases hk:k < l.length
   · have hir:=eM l[k]
     have hlen:ac.length ≤ 1000000000:=by
       have:=congrArg List.length g2
       simp only [List.length_append] at this;omega
     rw [List.drop_eq_getElem_cons hk,List.filter_cons] at g2
     cases hr:eo l[k] with
     | false=>
       rw [hr] at hir g2
       (have kc1:=hir;refine w0 ?_;(repeat' first|refine W2.mk ?_ ?_|refine W1.mk fun hc=>?_);all_goals clear kc1)
       refine ⟨(k + 1,ac),⟨by simp only;omega,by simpa using g2⟩,by simp only;omega,?_⟩
       exact ab
     | true=>
       rw [hr] at hir g2
       (have kc1:=hir;refine w0 ?_;(repeat' first|refine W2.mk ?_ ?_|refine W1.mk fun hc=>?_);all_goals clear kc1)
       refine ⟨(k + 1,ac ++ [l[k]]),⟨by simp only;omega,by simpa using g2⟩,by simp only;omega,an (aM 600 601) (an (aM 601 600) ?_)⟩
       exact ab
   · have hkl:k = l.length:=by omega
     subst hkl
     rw [List.drop_length] at g2
     simp at g2
     subst g2
     (have km1:=(show bp [(1000,600)] _ _ _ _ _ _ from hs);refine w0 ?_;(repeat' first|refine W2.mk ?_ ?_|refine W1.mk fun hc=>?_);all_goals clear km1)
     clear hs hT
     refine cc (bv 6 700 82 3 rfl rfl) ?_
     refine ah (X:=Nat × List Rg) (fun x=>x.1 ≤ Q.length ∧ x.2 = fB (Q.take x.1))
       (fun x=>aJ [(6,.row 700 0),(25,.row 600 0),(26,iC .i64 (Q.length:Nat)),(27,iC .i64 (x.1:Nat))] [(600,gK Q),(700,gK x.2)]) (fun x=>Q.length - x.1) (0,[]) ⟨Nat.zero_le _,rfl⟩ ?_ ?_
     · exact ab
     · rintro ⟨k,out⟩ ⟨g1,g2⟩
       simp only at g1 g2 ⊢
       by_cases hk:k < Q.length
       · have hol:out.length ≤ 1000000000:=by have:=II Q k;rw [← g2] at this;omega
         have hor:=Bx hQr hQs k
         rw [← g2] at hor
         have g3:=wa hk
         rw [← g2] at g3
         have hxr:=hQr _ (List.getElem_mem hk)
         generalize hx:Q[k] = x at *
         have HQ:(Q.map rgP)[k]? = some (rgP x):=by rw [List.getElem?_map,List.getElem?_eq_getElem hk,hx];rfl
         clear hQr hQs hx g2
         rcases dQ out with rfl|⟨o,y,rfl⟩
         · have g4:[x] = fB (Q.take (k + 1)):=by rw [g3];rfl
           (refine w0 ?_;(repeat' (first|refine W2.mk ?_ ?_|refine W1.mk fun hc=>?_|((first|apply aB rfl|apply aC rfl|apply aD rfl|apply aF rfl);(focus (first|((apply ax 5;(focus rfl);exact ae ⟨rfl,rfl,rfl⟩ rfl inferInstance inferInstance rfl rfl rfl HQ rfl rfl rfl))|(apply bt;(focus rfl);apply ag rfl rfl rfl rfl rfl;first|((apply ax 5;(focus rfl);exact ae ⟨rfl,rfl,rfl⟩ rfl inferInstance inferInstance rfl rfl rfl HQ rfl rfl rfl)))));refine w0 ?_))))
           refine ⟨(k + 1,[x]),⟨by simp only;omega,g4⟩,by simp only;omega,an (aM 700 701) (an (aM 701 700) ?_)⟩
           exact ab
         · have hyr:=hor y (by simp)
           clear hor
           have hG:fB (Q.take (k + 1)) = (if y.op = false ∧ bO y.hi x.lo < 0 then (o ++ [y]) ++ [x] else if A8 y x < 0 then o ++ [⟨y.lo,x.hi,x.op⟩] else o ++ [y]):=by
             rw [g3,wO]
             simp only [List.reverse_append,List.reverse_cons,List.reverse_nil,List.nil_append,List.singleton_append,List.reverse_reverse]
           clear g3
           have hcm:=eD y.hi x.lo (by have:=((bH y).1 hyr).2.1;omega)
           have hen:=Bc y x hyr hxr
           clear hyr hxr
           have hL1:(o ++ [y]).length = o.length + 1:=by simp
           generalize hL:o ++ [y] = L at *
           have hLi:((L.length:Int) - 1).toNat = o.length:=by omega
           have HY:(L.map rgP)[((L.length:Int) - 1).toNat]? = some (rgP y):=by
             rw [List.getElem?_map,hLi,← hL]
             simp
           have HS1:(L.map rgP).set ((L.length:Int) - 1).toNat (bL (rgP y) 1 [ao (.string x.hi)]) = (o ++ [(⟨y.lo,x.hi,y.op⟩:Rg)]).map rgP:=by
             rw [show (L.map rgP).set ((L.length:Int) - 1).toNat (bL (rgP y) 1 [ao (.string x.hi)]) = (L.set ((L.length:Int) - 1).toNat ⟨y.lo,x.hi,y.op⟩).map rgP from bj rgP L _ (⟨y.lo,x.hi,y.op⟩:Rg),← hL,dA o y _ [] _ (by rw [hL];omega)]
           have HY2:((o ++ [(⟨y.lo,x.hi,y.op⟩:Rg)]).map rgP)[((L.length:Int) - 1).toNat]? = some (rgP ⟨y.lo,x.hi,y.op⟩):=by
             rw [List.getElem?_map,hLi]
             simp
           have HS2:((o ++ [(⟨y.lo,x.hi,y.op⟩:Rg)]).map rgP).set ((L.length:Int) - 1).toNat (bL (rgP ⟨y.lo,x.hi,y.op⟩) 2 [ao (.bool x.op)]) = (o ++ [(⟨y.lo,x.hi,x.op⟩:Rg)]).map rgP:=by
             rw [show ((o ++ [(⟨y.lo,x.hi,y.op⟩:Rg)]).map rgP).set ((L.length:Int) - 1).toNat (bL (rgP ⟨y.lo,x.hi,y.op⟩) 2 [ao (.bool x.op)]) = ((o ++ [(⟨y.lo,x.hi,y.op⟩:Rg)]).set ((L.length:Int) - 1).toNat ⟨y.lo,x.hi,x.op⟩).map rgP from bj rgP (o ++ [(⟨y.lo,x.hi,y.op⟩:Rg)]) _ (⟨y.lo,x.hi,x.op⟩:Rg),dA o _ _ [] _ (by omega)]
           generalize hE:A8 y x = E at *
           generalize hC:bO y.hi x.lo = C at *
           cases hyo:y.op with
           | true=>
             rw [hyo,if_neg (by simp)] at hG
             have HYt:(L.map rgP)[((L.length:Int) - 1).toNat]? = some [ao (.string y.lo),ao (.string y.hi),ao (.bool true)]:=by rw [HY];simp only [rgP,hyo]
             (have kc1:=hcm;have kc2:=hen;refine w0 ?_;(repeat' (first|refine W2.mk ?_ ?_|refine W1.mk fun hc=>?_|((first|apply aB rfl|apply aC rfl|apply aD rfl|apply aF rfl);(focus (first|((apply ax 5;(focus rfl);first|exact ay ⟨rfl,rfl,rfl⟩ rfl inferInstance rfl rfl rfl HYt rfl|exact ae ⟨rfl,rfl,rfl⟩ rfl inferInstance inferInstance rfl rfl rfl HY rfl rfl rfl|exact ae ⟨rfl,rfl,rfl⟩ rfl inferInstance inferInstance rfl rfl rfl HQ rfl rfl rfl))|((apply ax 6;(focus rfl);first|exact al ⟨rfl,rfl⟩ rfl inferInstance rfl rfl rfl rfl HY rfl (aG rfl rfl rfl) rfl HS1|exact al ⟨rfl,rfl⟩ rfl inferInstance rfl rfl rfl rfl HY2 rfl (aG rfl rfl rfl) rfl HS2))|(apply bt;(focus rfl);apply ag rfl rfl rfl rfl rfl;first|((apply ax 5;(focus rfl);first|exact ay ⟨rfl,rfl,rfl⟩ rfl inferInstance rfl rfl rfl HYt rfl|exact ae ⟨rfl,rfl,rfl⟩ rfl inferInstance inferInstance rfl rfl rfl HY rfl rfl rfl|exact ae ⟨rfl,rfl,rfl⟩ rfl inferInstance inferInstance rfl rfl rfl HQ rfl rfl rfl))|((apply ax 6;(focus rfl);first|exact al ⟨rfl,rfl⟩ rfl inferInstance rfl rfl rfl rfl HY rfl (aG rfl rfl rfl) rfl HS1|exact al ⟨rfl,rfl⟩ rfl inferInstance rfl rfl rfl rfl HY2 rfl (aG rfl rfl rfl) rfl HS2)))));refine w0 ?_)));all_goals clear kc2 kc1)
             · rw [if_pos (by omega)] at hG
               refine ⟨(k + 1,_),⟨by simp only;omega,hG.symm⟩,by simp only;omega,?_⟩
               exact ab
             · rw [if_neg (by omega)] at hG
               refine ⟨(k + 1,L),⟨by simp only;omega,hG.symm⟩,by simp only;omega,?_⟩
               exact ab
           | false=>
             rw [hyo] at hG
             have HYt:(L.map rgP)[((L.length:Int) - 1).toNat]? = some [ao (.string y.lo),ao (.string y.hi),ao (.bool false)]:=by rw [HY];simp only [rgP,hyo]
             by_cases hC0:C < 0
             · rw [if_pos ⟨rfl,hC0⟩] at hG
               (have kc1:=hcm;have kc2:=hen;refine w0 ?_;(repeat' (first|refine W2.mk ?_ ?_|refine W1.mk fun hc=>?_|((first|apply aB rfl|apply aC rfl|apply aD rfl|apply aF rfl);(focus (first|((apply ax 5;(focus rfl);first|exact ay ⟨rfl,rfl,rfl⟩ rfl inferInstance rfl rfl rfl HYt rfl|exact ae ⟨rfl,rfl,rfl⟩ rfl inferInstance inferInstance rfl rfl rfl HY rfl rfl rfl|exact ae ⟨rfl,rfl,rfl⟩ rfl inferInstance inferInstance rfl rfl rfl HQ rfl rfl rfl))|((apply ax 6;(focus rfl);first|exact al ⟨rfl,rfl⟩ rfl inferInstance rfl rfl rfl rfl HY rfl (aG rfl rfl rfl) rfl HS1|exact al ⟨rfl,rfl⟩ rfl inferInstance rfl rfl rfl rfl HY2 rfl (aG rfl rfl rfl) rfl HS2))|(apply bt;(focus rfl);apply ag rfl rfl rfl rfl rfl;first|((apply ax 5;(focus rfl);first|exact ay ⟨rfl,rfl,rfl⟩ rfl inferInstance rfl rfl rfl HYt rfl|exact ae ⟨rfl,rfl,rfl⟩ rfl inferInstance inferInstance rfl rfl rfl HY rfl rfl rfl|exact ae ⟨rfl,rfl,rfl⟩ rfl inferInstance inferInstance rfl rfl rfl HQ rfl rfl rfl))|((apply ax 6;(focus rfl);first|exact al ⟨rfl,rfl⟩ rfl inferInstance rfl rfl rfl rfl HY rfl (aG rfl rfl rfl) rfl HS1|exact al ⟨rfl,rfl⟩ rfl inferInstance rfl rfl rfl rfl HY2 rfl (aG rfl rfl rfl) rfl HS2)))));refine w0 ?_)));all_goals clear kc2 kc1)
               refine ⟨(k + 1,L ++ [x]),⟨by simp only;omega,hG.symm⟩,by simp only;omega,an (aM 700 701) (an (aM 701 700) ?_)⟩
               exact ab
             · rw [if_neg (fun h=>hC0 h.2)] at hG
               (have kc1:=hcm;have kc2:=hen;refine w0 ?_;(repeat' (first|refine W2.mk ?_ ?_|refine W1.mk fun hc=>?_|((first|apply aB rfl|apply aC rfl|apply aD rfl|apply aF rfl);(focus (first|((apply ax 5;(focus rfl);first|exact ay ⟨rfl,rfl,rfl⟩ rfl inferInstance rfl rfl rfl HYt rfl|exact ae ⟨rfl,rfl,rfl⟩ rfl inferInstance inferInstance rfl rfl rfl HY rfl rfl rfl|exact ae ⟨rfl,rfl,rfl⟩ rfl inferInstance inferInstance rfl rfl rfl HQ rfl rfl rfl))|((apply ax 6;(focus rfl);first|exact al ⟨rfl,rfl⟩ rfl inferInstance rfl rfl rfl rfl HY rfl (aG rfl rfl rfl) rfl HS1|exact al ⟨rfl,rfl⟩ rfl inferInstance rfl rfl rfl rfl HY2 rfl (aG rfl rfl rfl) rfl HS2))|(apply bt;(focus rfl);apply ag rfl rfl rfl rfl rfl;first|((apply ax 5;(focus rfl);first|exact ay ⟨rfl,rfl,rfl⟩ rfl inferInstance rfl rfl rfl HYt rfl|exact ae ⟨rfl,rfl,rfl⟩ rfl inferInstance inferInstance rfl rfl rfl HY rfl rfl rfl|exact ae ⟨rfl,rfl,rfl⟩ rfl inferInstance inferInstance rfl rfl rfl HQ rfl rfl rfl))|((apply ax 6;(focus rfl);first|exact al ⟨rfl,rfl⟩ rfl inferInstance rfl rfl rfl rfl HY rfl (aG rfl rfl rfl) rfl HS1|exact al ⟨rfl,rfl⟩ rfl inferInstance rfl rfl rfl rfl HY2 rfl (aG rfl rfl rfl) rfl HS2)))));refine w0 ?_)));all_goals clear kc2 kc1)
               · rw [if_pos (by omega)] at hG
                 refine ⟨(k + 1,_),⟨by simp only;omega,hG.symm⟩,by simp only;omega,?_⟩
                 exact ab
               · rw [if_neg (by omega)] at hG
                 refine ⟨(k + 1,L),⟨by simp only;omega,hG.symm⟩,by simp only;omega,?_⟩
                 exact ab
       · have hkl:k = Q.length:=by omega
         subst hkl
         have g3:out = R:=by rw [g2,List.take_length];exact hR
         (refine w0 ?_;(repeat' first|refine W2.mk ?_ ?_|refine W1.mk fun hc=>?_))
         refine aO ?_
         exact dx rfl rfl rfl (by rw [g3])
theorem yw (l:List Rg) (hl:(l.filter eo).length ≤ 12) (hn:l.length ≤ 1000000000):Fn Tryz.prog 91 [db l] (v8 (nW l)):=by
 have hTr:∀ x ∈ l.filter eo,eo x = true:=fun x hx=>(List.mem_filter.1 hx).2
 exact zU l (cz ltR (l.filter eo)) (Fc _ (fun x hx=>by have:=((bH x).1 (hTr x hx)).1;show x.lo.size ≤ _;omega) hl) (gr _) (fun x hx=>hTr x ((jq nV).1 hx))
   (((b8 nV _).1).imp fun {x y} h=>by simp only [ltR,decide_eq_false_iff_not,e9] at h;grind) hn
theorem Bz (l:List Rg) (hl:l.length ≤ 12):∃ m,cG m ∧ m.length ≤ l.length ∧ (∀ s,bn m s = bn l s) ∧ Fn Tryz.prog 132 [.per (ef l)] (.per (ef m)):=by
 by_cases hok:cG l
 · refine ⟨l,hok,Nat.le_refl _,fun _=>rfl,?_⟩
   have h1:=jp l (by omega) true (by simp [hok])
   refine fi Tryz.func132 Tryz.ntmps132 ?_
   (have kc1:=h1;refine w0 ?_;(repeat' first|refine W2.mk ?_ ?_|refine W1.mk fun hc=>?_);all_goals clear kc1)
   refine aO ?_
   exact b0 rfl
 · obtain ⟨a1,a2⟩:=nX l
   have a3:=qk l
   refine ⟨nW l,a1,a3,a2,?_⟩
   have h1:=jp l (by omega) false (by simp [hok])
   have h2:=(yw l (by have:=List.length_filter_le eo l;omega) (by omega)).frz
   refine fi Tryz.func132 Tryz.ntmps132 ?_
   (have kc1:=h1;have kc2:=h2;refine w0 ?_;(repeat' first|refine W2.mk ?_ ?_|refine W1.mk fun hc=>?_);all_goals clear kc2 kc1)
   refine aO ?_
   exact b0 rfl
theorem wb (l:List Rg) (s:ByteArray) (hs:s.size ≤ 1000000000) (hl:l.length ≤ 1000000000) (p:Nat) (hp:p ≤ l.length) (hlt:∀ j (hj:j < l.length),((l[j].op = true ∨ s < l[j].hi) ↔ p ≤ j)) :
   Fn Tryz.prog 133 [.per (ef l),sC s] (ig (p:Nat)):=by
 refine fi Tryz.func133 Tryz.ntmps133 ?_
 (refine w0 ?_;(repeat' first|refine W2.mk ?_ ?_|refine W1.mk fun hc=>?_))
 refine ah (X:=Nat × Nat) (fun z=>z.1 ≤ p ∧ p ≤ z.2 ∧ z.2 ≤ l.length)
   (fun z=>aJ [(0,.per (ef l)),(1,sC s),(5,iC .i64 (z.1:Nat)),(6,iC .i64 (z.2:Nat))] []) (fun z=>z.2 - z.1) (0,l.length) ⟨Nat.zero_le _,hp,Nat.le_refl _⟩ ?_ ?_
 · exact ab
 · rintro ⟨i,j⟩ ⟨h1,h2,h3⟩
   simp only at h1 h2 h3 ⊢
   by_cases hij:i < j
   · obtain ⟨h,hh'⟩:∃ h:Nat,(i:Int) + ((j:Int) - (i:Int)) / 2 = (h:Nat):=⟨i + (j - i) / 2,by omega⟩
     have hih:i ≤ h:=by omega
     have hhj:h < j:=by omega
     have hlt':=hlt h (by omega)
     have hmm:=eD s l[h].hi (by omega)
     clear hlt
     cases ho:l[h].op with
     | true=>
       rw [ho] at hlt'
       have:=hlt'.1 (.inl rfl)
       clear hlt'
       (have ke1:=Lib.hid (hh');have kc1:=hmm;refine bm ?_;(repeat' first|refine W2.mk ?_ ?_|refine W1.mk fun hc=>?_);all_goals clear kc1 ke1)
       all_goals first|(exfalso;simp_all;done)|skip
       refine ⟨(i,h),⟨h1,by simp only;omega,by simp only;omega⟩,by simp only;omega,?_⟩
       exact ab
     | false=>
       rw [ho] at hlt'
       have hq:bO s l[h].hi < 0 ↔ p ≤ h:=by rw [← hlt',e9];simp
       clear hlt'
       (have ke1:=Lib.hid (hh');have kc1:=hmm;refine bm ?_;(repeat' first|refine W2.mk ?_ ?_|refine W1.mk fun hc=>?_);all_goals clear kc1 ke1)
       all_goals first|(exfalso;simp_all;done)|skip
       · refine ⟨(i,h),⟨h1,by simp only;omega,by simp only;omega⟩,by simp only;omega,?_⟩
         exact ab
       · refine ⟨(h + 1,j),⟨by simp only;omega,h2,h3⟩,by simp only;omega,?_⟩
         exact ab
   · obtain rfl:i = p:=by omega
     (refine w0 ?_;(repeat' first|refine W2.mk ?_ ?_|refine W1.mk fun hc=>?_))
     refine aO ?_
     exact az rfl rfl
theorem zV (l:List Rg) (s:ByteArray) (hl:l.length ≤ 12) (hs:s.size ≤ 1000000000):Fn Tryz.prog 80 [.per (ef l),sC s] (cU (bn l s)):=by
 obtain ⟨m,hok,hml,hany,h1⟩:=Bz l hl
 obtain ⟨p,hp,hlt⟩:=zH hok s
 have h2:=wb m s hs (by omega) p hp hlt
 have hA:=Ey hok hlt
 rw [hany] at hA
 rw [hA]
 clear hA hany hlt hok
 by_cases hn:p < m.length
 · have h3:=mY m[p] s hs
   rw [List.getElem?_eq_getElem hn]
   simp only
   refine fi Tryz.func80 Tryz.ntmps80 ?_
   (have kc1:=h1;have kc2:=h2;have kc3:=h3;refine w0 ?_;(repeat' first|refine W2.mk ?_ ?_|refine W1.mk fun hc=>?_);all_goals clear kc3 kc2 kc1)
   refine aO ?_
   exact af rfl rfl
 · rw [List.getElem?_eq_none (by omega)]
   simp only
   refine fi Tryz.func80 Tryz.ntmps80 ?_
   (have kc1:=h1;have kc2:=h2;refine w0 ?_;(repeat' first|refine W2.mk ?_ ?_|refine W1.mk fun hc=>?_);all_goals clear kc2 kc1)
   refine aO ?_
   exact af rfl rfl
end
end Go.Proofs.YtembiemaiacdfaaGreat
