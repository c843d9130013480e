/- Texts joined: Od. -/
import Derived.Test.YtembiemaiacdfaaGreatJ21
import Derived.Test.YtembiemaiacdfaaGreatJ12
import Derived.Test.YtembiemaiacdfaaGreatJ23
import Derived.Test.YtembiemaiacdfaaGreatJ32
import Derived.Test.YtembiemaiacdfaaGreatJ22
import Derived.Test.YtembiemaiacdfaaGreatJ05
set_option maxRecDepth 10000
set_option maxHeartbeats 8000000
namespace Go.Proofs.YtembiemaiacdfaaGreat
open Go.RowKit
abbrev Snt:=It × Int
abbrev sntP (x:Snt):List PV:=itP x.1 ++ [ao (.int .i64 x.2)]
abbrev Lj (x:Snt):Cnt:=.per (bW (sntP x))
def oJ (x y:Snt):Int:=if x.1.prio > y.1.prio then -1 else if x.1.prio < y.1.prio then 1 else if x.2 ≠ y.2 then x.2 - y.2 else bO x.1.key y.1.key
def bJ (x y:Snt):Bool:=decide (oJ x y < 0)
def lL (x:Snt):Prop:=x.1.key.size ≤ 1000000000 ∧ 0 ≤ x.2 ∧ x.2 ≤ 3
theorem nj (x y:Snt):bJ x y = true ↔ (y.1.prio < x.1.prio ∨ (x.1.prio = y.1.prio ∧ (x.2 < y.2 ∨ (x.2 = y.2 ∧ x.1.key < y.1.key)))):=by
 unfold bJ oJ
 rw [decide_eq_true_iff,← e9]
 split
 · constructor
   · intro _;left;omega
   · intro _;omega
 · split
   · constructor
     · intro h;omega
     · rintro (h|⟨h,_⟩) <;> omega
   · split
     · constructor
       · intro h;right;exact ⟨by omega,.inl (by omega)⟩
       · rintro (h|⟨_,h|⟨h,_⟩⟩) <;> omega
     · rename_i h3
       have h3:=Decidable.of_not_not h3
       constructor
       · intro h;right;exact ⟨by omega,.inr ⟨h3,h⟩⟩
       · rintro (h|⟨_,h|⟨_,h⟩⟩)
         · omega
         · omega
         · exact h
theorem cI:oT bJ where
 irr x:=by
   rw [← Bool.not_eq_true,nj]
   rintro (h|⟨_,h|⟨_,h⟩⟩)
   · omega
   · omega
   · grind
 tr x y z h1 h2:=by
   rw [nj] at *
   rcases h1 with h1|⟨h1,h1'|⟨h1',h1''⟩⟩ <;> rcases h2 with h2|⟨h2,h2'|⟨h2',h2''⟩⟩
   all_goals first
     | (left;omega)
     | (right;refine ⟨by omega,.inl (by omega)⟩)
     | (right;refine ⟨by omega,.inr ⟨by omega,by grind⟩⟩)
 ntr x y z h1 h2:=by
   rw [← Bool.not_eq_true,nj] at *
   rintro (h|⟨h,h'|⟨h',h''⟩⟩)
   · apply h1
     by_cases q:y.1.prio < x.1.prio
     · exact .inl q
     · exfalso;exact h2 (.inl (by omega))
   · by_cases q:y.1.prio = x.1.prio
     · by_cases q2:x.2 < y.2
       · exact h1 (.inr ⟨by omega,.inl q2⟩)
       · exact h2 (.inr ⟨by omega,.inl (by omega)⟩)
     · rcases Int.lt_or_gt_of_ne q with g|g
       · exact h1 (.inl g)
       · exact h2 (.inl (by omega))
   · by_cases q:y.1.prio = x.1.prio
     · by_cases q2:x.2 = y.2
       · by_cases q3:x.1.key < y.1.key
         · exact h1 (.inr ⟨by omega,.inr ⟨q2,q3⟩⟩)
         · exact h2 (.inr ⟨by omega,.inr ⟨by omega,by grind⟩⟩)
       · rcases Int.lt_or_gt_of_ne q2 with g|g
         · exact h1 (.inr ⟨by omega,.inl g⟩)
         · exact h2 (.inr ⟨by omega,.inl (by omega)⟩)
     · rcases Int.lt_or_gt_of_ne q with g|g
       · exact h1 (.inl g)
       · exact h2 (.inl (by omega))
section
theorem nk (x y:Snt) (hx:lL x) (hy:lL y):dY Tryz.prog 142 [Lj x,Lj y] [] (.per (ao (.int .i64 (oJ x y)))) []:=by
 obtain ⟨⟨xk,xr,xc,xa,xp,xd,xb⟩,xs⟩:=x
 obtain ⟨⟨yk,yr,yc,ya,yp,yd,yb⟩,ys⟩:=y
 obtain ⟨hk,hx0,hx3⟩:=hx
 obtain ⟨-,hy0,hy3⟩:=hy
 simp only at hk hx0 hx3 hy0 hy3
 have h1:=eD xk yk (by omega)
 have hE:oJ (⟨xk,xr,xc,xa,xp,xd,xb⟩,xs) (⟨yk,yr,yc,ya,yp,yd,yb⟩,ys) = (if xp > yp then -1 else if xp < yp then 1 else if xs ≠ ys then xs - ys else bO xk yk):=rfl
 rw [hE]
 show dY Tryz.prog _ [.per (bW [ao (.string xk),ao (.int .i64 xr),ao (.int .i64 xc),ao (.int .i64 xa),ao (.int .i64 xp),ao (.bool xd),ao (.string xb),ao (.int .i64 xs)]),.per (bW [ao (.string yk),ao (.int .i64 yr),ao (.int .i64 yc),ao (.int .i64 ya),ao (.int .i64 yp),ao (.bool yd),ao (.string yb),ao (.int .i64 ys)])] [] _ []
 refine eT Tryz.func142 Tryz.ntmps142 ?_
 (have kc1:=h1;refine w0 ?_;(repeat' first|refine W2.mk ?_ ?_|refine W1.mk fun hc=>?_);all_goals clear kc1)
 · rw [if_pos (by assumption)]
   (refine ⟨(by first|exact .inl rfl|exact .inr rfl),bS [] rfl rfl .nil ?_⟩)
   exact aY rfl rfl
 · rw [if_neg (by assumption),if_pos (by assumption)]
   (refine ⟨(by first|exact .inl rfl|exact .inr rfl),bS [] rfl rfl .nil ?_⟩)
   exact aY rfl rfl
 · rw [if_neg (by assumption),if_neg (by assumption),if_pos (by assumption)]
   (refine ⟨(by first|exact .inl rfl|exact .inr rfl),bS [] rfl rfl .nil ?_⟩)
   exact aY rfl rfl
 · rw [if_neg (by assumption),if_neg (by assumption),if_neg (by omega)]
   (refine ⟨(by first|exact .inl rfl|exact .inr rfl),bS [] rfl rfl .nil ?_⟩)
   exact aY rfl rfl
end
abbrev fF:Cnt:=.per (ao (.func (.func 142) #[] #[]))
abbrev cR (l:List Snt):Blk:=.row 185 8 (l.map sntP)
def jF (l:List Snt):Prop:=∀ x ∈ l,lL x
section
theorem sA (A M Z:List Snt) (hk:jF M) (hl:(A ++ M ++ Z).length ≤ 1000000000):dY Tryz.prog 213 [.row 1000 0,iC .i64 (A.length:Nat),iC .i64 ((A.length + M.length:Nat):Int),fF] [(1000,cR (A ++ M ++ Z))] .any [(1000,cR (A ++ cz bJ M ++ Z))]:=by
 generalize hR:A ++ cz bJ M ++ Z = R
 generalize hb:A.length + M.length = b
 simp only [List.length_append] at hl
 refine eT Tryz.func213 Tryz.ntmps213 ?_
 (refine w0 ?_;(repeat' first|refine W2.mk ?_ ?_|refine W1.mk fun hc=>?_))
 refine ah (X:=Nat × List Snt × List Snt) (fun x=>A.length < x.1 ∧ x.1 ≤ b + 1 ∧ A.length + x.2.1.length = min x.1 b ∧ A.length + x.2.1.length + x.2.2.length = b ∧ jF x.2.1 ∧ jF x.2.2 ∧ A ++ x.2.2.foldl (fP bJ) x.2.1 ++ Z = R)
   (fun x=>aJ [(0,.row 1000 0),(1,iC .i64 (A.length:Nat)),(2,iC .i64 (b:Nat)),(3,fF),(8,iC .i64 (x.1:Nat))] [(1000,cR (A ++ x.2.1 ++ (x.2.2 ++ Z)))]) (fun x=>b + 1 - x.1) (A.length + 1,M.take 1,M.drop 1) ?_ ?_ ?_
 · refine ⟨by simp only;omega,by simp only;omega,by simp only [List.length_take];omega,by simp only [List.length_take,List.length_drop];omega,fun x h=>hk x (List.mem_of_mem_take h),fun x h=>hk x (List.mem_of_mem_drop h),?_⟩
   rw [← hR]
   cases M with
   | nil=>rfl
   | cons x M=>rfl
 · have e:A ++ M.take 1 ++ (M.drop 1 ++ Z) = A ++ M ++ Z:=by
     rw [List.append_assoc,← List.append_assoc (M.take 1),List.take_append_drop,List.append_assoc]
   rw [e]
   exact ab
 · rintro ⟨i,p,q⟩ ⟨h1,h2,h3,h4,hkp,hkq,h5⟩
   simp only at h1 h2 h3 h4 hkp hkq h5 ⊢
   by_cases hlt:i < b
   · obtain ⟨x,q,rfl⟩:∃ x q',q = x :: q':=by
       cases q with
       | nil=>simp at h4;omega
       | cons x q=>exact ⟨x,q,rfl⟩
     have hip:A.length + p.length = i:=by omega
     clear h3
     have hkx:=hkq x (by simp)
     simp only [List.length_cons,List.foldl_cons] at h4 h5
     (repeat' (first|refine cl ?_|refine bh ?_|refine bx ?_|refine bz ?_|refine cm ?_|refine aW ?_|refine cj ?_|refine ck (by kernel_rfl) ?_|(refine eU rfl rfl ⟨fun hc=>?_,fun hc=>?_⟩ <;> (repeat rw [List.length_map] at hc) <;> (try exact cP hc))|((first|apply aB rfl|apply aC rfl|apply aD rfl|apply aF rfl);focus (first|exact dn|fail))|refine bB ?_|refine bD ?_|refine bF ?_|refine dv ?_|refine dw ?_|refine bG ?_|refine bi rfl ?_|((first|refine eV rfl rfl rfl ⟨fun hc=>?_,fun hc=>?_⟩|refine eW rfl rfl rfl ⟨fun hc=>?_,fun hc=>?_⟩) <;> (fail_if_success (have q:(true = true):=hc)) <;> (fail_if_success (have q:(false = false):=hc)) <;> (repeat rw [List.length_map] at hc) <;> (try exact cP hc))|refine aZ rfl rfl (fun hc=>?_) ?_))
     refine ah (X:=List Snt × List Snt) (fun y=>y.1.length + y.2.length = p.length ∧ jF y.1 ∧ jF y.2 ∧ iE bJ x y.1.reverse y.2 = fP bJ p x)
       (fun y=>aJ [(0,.row 1000 0),(1,iC .i64 (A.length:Nat)),(2,iC .i64 (b:Nat)),(3,fF),(8,iC .i64 (i:Nat)),(9,iC .i64 ((A.length + y.1.length:Nat):Int))] [(1000,cR (A ++ y.1 ++ x :: (y.2 ++ (q ++ Z))))]) (fun y=>y.1.length) (p,[]) ⟨by simp,hkp,fun x h=>by simp at h,rfl⟩ ?_ ?_
     · subst hip
       exact ab
     · rintro ⟨p1,p2⟩ ⟨g1,gk1,gk2,g2⟩
       simp only at g1 gk1 gk2 g2 ⊢
       have out:fP bJ p x = p1 ++ x :: p2 → (∃ z:Nat × List Snt × List Snt,(A.length < z.1 ∧ z.1 ≤ b + 1 ∧ A.length + z.2.1.length = min z.1 b ∧ A.length + z.2.1.length + z.2.2.length = b ∧ jF z.2.1 ∧ jF z.2.2 ∧ A ++ z.2.2.foldl (fP bJ) z.2.1 ++ Z = R) ∧ z = (i + 1,p1 ++ x :: p2,q)):=fun e=>by
         refine ⟨_,⟨by simp only;omega,by simp only;omega,by simp;omega,by simp;omega,fun y hy=>?_,fun y hy=>hkq y (by simp [hy]),by rw [← e];exact h5⟩,rfl⟩
         rcases List.mem_append.1 hy with h|h
         · exact gk1 y h
         · rcases List.mem_cons.1 h with h|h
           · subst h;exact hkx
           · exact gk2 y h
       have hL0:A ++ p1 ++ x :: (p2 ++ (q ++ Z)) = A ++ (p1 ++ x :: p2) ++ (q ++ Z):=by simp
       rcases dQ p1 with rfl|⟨p1',y,rfl⟩
       · have e:fP bJ p x = [] ++ x :: p2:=by rw [← g2];rfl
         obtain ⟨z,hz,rfl⟩:=out e
         rw [hL0]
         (refine w0 ?_;(repeat' first|refine W2.mk ?_ ?_|refine W1.mk fun hc=>?_))
         refine ⟨_,hz,by simp only;omega,?_⟩
         exact ab
       · obtain ⟨j,hj⟩:∃ j,A.length + p1'.length = j:=⟨_,rfl⟩
         have hj1:A.length + (p1' ++ [y]).length = j + 1:=by simp;omega
         have hky:=gk1 y (by simp)
         have hm:=nk x y hkx hky
         generalize hL:A ++ (p1' ++ [y]) ++ x :: (p2 ++ (q ++ Z)) = L at *
         have hlen:j + 1 < L.length:=by rw [← hL];simp;omega
         have HJ:(L.map sntP)[j + 1]? = some (sntP x):=by
           rw [List.getElem?_map,← hL,List.getElem?_append_right (by simp;omega),List.length_append,hj1,Nat.sub_self];rfl
         have HJ1:(L.map sntP)[j]? = some (sntP y):=by
           rw [List.getElem?_map,← hL,List.append_assoc,List.append_assoc,List.getElem?_append_right (by omega),List.getElem?_append_right (by omega)]
           rw [show j - A.length - p1'.length = 0 by omega];rfl
         rw [hj1]
         have hrev:(p1' ++ [y]).reverse = y :: p1'.reverse:=by simp
         rw [hrev,iE] at g2
         have HS1:(L.map sntP).set (j + 1) (bL (sntP x) 0 (sntP y)) = (L.set (j + 1) y).map sntP:=by rw [← bj];rfl
         have HJ2:((L.set (j + 1) y).map sntP)[j]? = some (sntP y):=by
           rw [← bj,List.getElem?_set_ne (by omega)];exact HJ1
         have HS2:((L.set (j + 1) y).map sntP).set j (bL (sntP y) 0 (sntP x)) = (A ++ p1' ++ x :: ((y :: p2) ++ (q ++ Z))).map sntP:=by
           rw [bj sntP (L.set (j + 1) y) j x |>.symm.trans rfl |> fun h=>(show ((L.set (j + 1) y).map sntP).set j (bL (sntP y) 0 (sntP x)) = ((L.set (j + 1) y).set j x).map sntP from bj sntP _ j x)]
           rw [← hL,dA (A ++ (p1' ++ [y])) x y _ (j + 1) (by simp;omega),show A ++ (p1' ++ [y]) ++ y :: (p2 ++ (q ++ Z)) = (A ++ p1') ++ y :: (y :: (p2 ++ (q ++ Z))) by simp,dA (A ++ p1') y x _ j (by simp;omega)]
           simp
         by_cases hxy:oJ x y < 0
         · rw [if_pos (show bJ x y = true from decide_eq_true hxy)] at g2
           clear out
           (refine w0 ?_;(repeat' (first|refine W2.mk ?_ ?_|refine W1.mk fun hc=>?_|((first|apply aB rfl|apply aC rfl|apply aD rfl|apply aF rfl);(focus (first|((apply ax 5;(focus rfl);first|exact ae ⟨rfl,rfl,rfl⟩ rfl inferInstance inferInstance rfl rfl rfl HJ rfl rfl rfl|exact ae ⟨rfl,rfl,rfl⟩ rfl inferInstance inferInstance rfl rfl rfl HJ1 rfl rfl rfl))|((apply ax 6;(focus rfl);first|exact al ⟨rfl,rfl⟩ rfl inferInstance rfl rfl rfl rfl HJ rfl (.inl rfl) rfl HS1|exact al ⟨rfl,rfl⟩ rfl inferInstance rfl rfl rfl rfl HJ2 rfl (.inl rfl) rfl HS2))|(exact nv [] hm)|(apply bt;(focus rfl);apply ag rfl rfl rfl rfl rfl;first|((apply ax 5;(focus rfl);first|exact ae ⟨rfl,rfl,rfl⟩ rfl inferInstance inferInstance rfl rfl rfl HJ rfl rfl rfl|exact ae ⟨rfl,rfl,rfl⟩ rfl inferInstance inferInstance rfl rfl rfl HJ1 rfl rfl rfl))|((apply ax 6;(focus rfl);first|exact al ⟨rfl,rfl⟩ rfl inferInstance rfl rfl rfl rfl HJ rfl (.inl rfl) rfl HS1|exact al ⟨rfl,rfl⟩ rfl inferInstance rfl rfl rfl rfl HJ2 rfl (.inl rfl) rfl HS2))|(exact nv [] hm))));refine w0 ?_))))
           refine ⟨(p1',y :: p2),⟨by simp at g1 ⊢;omega,fun z h=>gk1 z (by simp [h]),fun z h=>?_,g2⟩,by simp,?_⟩
           · rcases List.mem_cons.1 h with h|h
             · subst h;exact hky
             · exact gk2 z h
           · simp only [hj]
             exact ab
         · rw [if_neg (show ¬ bJ x y = true by unfold bJ;rw [decide_eq_true_iff];exact hxy)] at g2
           have e:fP bJ p x = (p1' ++ [y]) ++ x :: p2:=by rw [← g2];simp
           obtain ⟨z,hz,rfl⟩:=out e
           (refine w0 ?_;(repeat' (first|refine W2.mk ?_ ?_|refine W1.mk fun hc=>?_|((first|apply aB rfl|apply aC rfl|apply aD rfl|apply aF rfl);(focus (first|((apply ax 5;(focus rfl);first|exact ae ⟨rfl,rfl,rfl⟩ rfl inferInstance inferInstance rfl rfl rfl HJ rfl rfl rfl|exact ae ⟨rfl,rfl,rfl⟩ rfl inferInstance inferInstance rfl rfl rfl HJ1 rfl rfl rfl))|(exact nv [] hm)|(apply bt;(focus rfl);apply ag rfl rfl rfl rfl rfl;first|((apply ax 5;(focus rfl);first|exact ae ⟨rfl,rfl,rfl⟩ rfl inferInstance inferInstance rfl rfl rfl HJ rfl rfl rfl|exact ae ⟨rfl,rfl,rfl⟩ rfl inferInstance inferInstance rfl rfl rfl HJ1 rfl rfl rfl))|(exact nv [] hm))));refine w0 ?_))))
           refine ⟨_,hz,by simp only;omega,?_⟩
           simp only
           rw [← hL0]
           exact ab
   · have hq:q = []:=List.eq_nil_of_length_eq_zero (by omega)
     subst hq
     simp only [List.foldl_nil] at h5
     (refine w0 ?_;(repeat' first|refine W2.mk ?_ ?_|refine W1.mk fun hc=>?_))
     rw [List.nil_append,h5]
     (refine ⟨(by first|exact .inl rfl|exact .inr rfl),bu [(1000,1000)] rfl rfl ?_⟩;(focus (repeat (first|exact ar.nil|(refine ar.cons rfl ?_ ?_;(focus first|rfl|skip))))))
end
section
end
end Go.Proofs.YtembiemaiacdfaaGreat
namespace Go.Proofs.YtembiemaiacdfaaGreat
open Go.RowKit
def e8 (R:List Rg) (hs:Int → Int → Bool) (x:It):Int:=(if bn R x.key then 0 else 2) + (if hs x.rep x.cnt then 1 else 0)
theorem BX (R:List Rg) (hs:Int → Int → Bool) (x:It):0 ≤ e8 R hs x ∧ e8 R hs x ≤ 3:=by
 unfold e8;split <;> split <;> omega
def nl (R:List Rg) (hs:Int → Int → Bool) (x:It):Snt:=(x,e8 R hs x)
def cD (R:List Rg) (hs:Int → Int → Bool) (l:List It):List It:=(cz bJ (l.map (nl R hs))).map Prod.fst
theorem Ky {R:List Rg} {hs:Int → Int → Bool} {l:List It} (hk:mo l):jF (l.map (nl R hs)):=fun x hx=>by
 obtain ⟨y,hy,rfl⟩:=List.mem_map.1 hx
 have:=BX R hs y
 exact ⟨hk y hy,this.1,this.2⟩
section
theorem Gd (R R':List Rg) (hR:R'.length ≤ 12) (hA:∀ s,bn R' s = bn R s) (th:PV) (hs:Int → Int → Bool) (x:It) (hk:x.key.size ≤ 1000000000)
   (hH:Fn Tryz.prog 186 [.per th,oQ x.rep x.cnt] (cU (hs x.rep x.cnt))):Fn Tryz.prog 140 [.per (ef R'),.per th,oP x] (ig (e8 R hs x)):=by
 have h1:=zV R' x.key hR hk
 rw [hA] at h1
 unfold e8
 generalize bn R x.key = a at *
 generalize hs x.rep x.cnt = c at *
 cases a <;> cases c
 all_goals
   refine fi Tryz.func140 Tryz.ntmps140 ?_
   (have kc1:=h1;have kc2:=hH;refine w0 ?_;(repeat' first|refine W2.mk ?_ ?_|refine W1.mk fun hc=>?_);all_goals clear kc2 kc1)
   refine aO ?_
   exact az rfl (by simp)
theorem Gf (R:List Rg) (hR:R.length ≤ 12) (th:PV) (hs:Int → Int → Bool) (hH:∀ r c,Fn Tryz.prog 186 [.per th,oQ r c] (cU (hs r c))) (l:List It) (hk:mo l) (hl:l.length ≤ 1000000)
   (h3:dY Tryz.prog 141 [.row 1000 0,fF] [(1000,cR (l.map (nl R hs)))] .any [(1000,cR (cz bJ (l.map (nl R hs))))]) :
   Fn Tryz.prog 90 [db R,.per th,dN l] (Bo (cD R hs l)):=by
 have h1:=(yw R (by have:=List.length_filter_le eo R;omega) (by omega)).frz
 have hA:=(nX R).2
 have hRl:(nW R).length ≤ 12:=by have:=qk R;omega
 have h2:∀ x ∈ l,Fn Tryz.prog 140 [.per (ef (nW R)),.per th,oP x] (ig (e8 R hs x)):=fun x hx=>Gd R (nW R) hRl hA th hs x (hk x hx) (hH _ _)
 have hQl:(cz bJ (l.map (nl R hs))).length = l.length:=by rw [gr,List.length_map]
 unfold cD
 generalize nW R = R' at *
 generalize cz bJ (l.map (nl R hs)) = Q at *
 clear hH hA hRl hR
 refine fi Tryz.func90 Tryz.ntmps90 ?_
 (have kc1:=h1;refine w0 ?_;(repeat' first|refine W2.mk ?_ ?_|refine W1.mk fun hc=>?_);all_goals clear kc1)
 refine cc (bv 7 600 185 8 rfl rfl) ?_
 refine ah (X:=Nat) (fun k=>k ≤ l.length)
   (fun k=>aJ [(0,.per (ef R')),(1,.per th),(7,.row 600 0),(15,dN l),(16,iC .i64 (l.length:Nat)),(17,iC .i64 (k:Nat))] [(600,cR ((l.take k).map (nl R hs)))]) (fun k=>l.length - k) 0 (Nat.zero_le _) ?_ ?_
 · exact ab
 · rintro k g1
   by_cases hlt:k < l.length
   · have h4:=h2 l[k] (List.getElem_mem hlt)
     have ht:((l.take (k + 1)).map (nl R hs)).map sntP = ((l.take k).map (nl R hs)).map sntP ++ [sntP (nl R hs l[k])]:=by
       rw [List.take_succ_eq_append_getElem hlt,List.map_append,List.map_append];rfl
     have htl:((l.take k).map (nl R hs)).length ≤ 1000000:=by rw [List.length_map,List.length_take];omega
     generalize (l.take k).map (nl R hs) = A at *
     generalize hB:(l.take (k + 1)).map (nl R hs) = B at *
     clear h1 h2 h3
     (have kc1:=h4;refine w0 ?_;(repeat' first|refine W2.mk ?_ ?_|refine W1.mk fun hc=>?_);all_goals clear kc1)
     refine ⟨k + 1,by omega,by omega,an (aM 600 601) (an (aM 601 600) ?_)⟩
     show Le _ _ (aJ _ [(600,cR ((l.take (k + 1)).map (nl R hs)))])
     rw [hB]
     unfold cR
     rw [ht]
     exact ab
   · obtain rfl:k = l.length:=by omega
     rw [List.take_length]
     clear h1 h2
     (have km1:=(show bp [(1000,600)] _ _ _ _ _ _ from h3);refine w0 ?_;(repeat' first|refine W2.mk ?_ ?_|refine W1.mk fun hc=>?_);all_goals clear km1)
     refine cc (bv 10 700 61 7 rfl rfl) ?_
     refine ah (X:=Nat) (fun k=>k ≤ Q.length)
       (fun k=>aJ [(10,.row 700 0),(33,.row 600 0),(34,iC .i64 (Q.length:Nat)),(35,iC .i64 (k:Nat))] [(600,cR Q),(700,dW ((Q.take k).map Prod.fst))]) (fun k=>Q.length - k) 0 (Nat.zero_le _) ?_ ?_
     · exact ab
     · rintro k g1
       by_cases hlt:k < Q.length
       · have ht:((Q.take (k + 1)).map Prod.fst).map itP = ((Q.take k).map Prod.fst).map itP ++ [itP Q[k].1]:=by
           rw [List.take_succ_eq_append_getElem hlt,List.map_append,List.map_append];rfl
         have htl:((Q.take k).map Prod.fst).length ≤ 1000000:=by rw [List.length_map,List.length_take];omega
         have HQ:(Q.map sntP)[k]? = some (sntP Q[k]):=by rw [List.getElem?_map,List.getElem?_eq_getElem hlt];rfl
         generalize (Q.take k).map Prod.fst = A at *
         generalize hB:(Q.take (k + 1)).map Prod.fst = B at *
         generalize Q[k] = q at *
         clear h3
         (refine w0 ?_;(repeat' (first|refine W2.mk ?_ ?_|refine W1.mk fun hc=>?_|((first|apply aB rfl|apply aC rfl|apply aD rfl|apply aF rfl);(focus (first|((apply ax 5;(focus rfl);exact ae ⟨rfl,rfl,rfl⟩ rfl inferInstance inferInstance rfl rfl rfl HQ rfl rfl rfl))|(apply bt;(focus rfl);apply ag rfl rfl rfl rfl rfl;first|((apply ax 5;(focus rfl);exact ae ⟨rfl,rfl,rfl⟩ rfl inferInstance inferInstance rfl rfl rfl HQ rfl rfl rfl)))));refine w0 ?_))))
         refine ⟨k + 1,by omega,by omega,an (aM 700 701) (an (aM 701 700) ?_)⟩
         show Le _ _ (aJ _ [_,(700,dW ((Q.take (k + 1)).map Prod.fst))])
         rw [hB]
         unfold dW
         rw [ht]
         exact ab
       · obtain rfl:k = Q.length:=by omega
         rw [List.take_length]
         clear h3
         (refine w0 ?_;(repeat' first|refine W2.mk ?_ ?_|refine W1.mk fun hc=>?_))
         refine aO ?_
         exact dx rfl rfl rfl rfl
def mh (l:List It) (i:Nat):Prop:=∀ h:i + 1 < l.length,(l[i + 1]'h).prio ≤ (l[i]'(by omega)).prio
instance (l:List It) (i:Nat):Decidable (mh l i):=by unfold mh;infer_instance
def qT (l:List It):Bool:=(List.range l.length).all fun i=>decide (mh l i)
theorem qU {l:List It}:qT l = true ↔ ∀ i,mh l i:=by
 unfold qT
 rw [List.all_eq_true]
 constructor
 · intro h i hi
   exact of_decide_eq_true (h i (List.mem_range.2 (by omega))) hi
 · intro h i _;exact decide_eq_true (h i)
theorem BZ (l:List It) (hl:l.length ≤ 1000000000):Fn Tryz.prog 18 [dN l] (cU (qT l)):=by
 have hb:=@qU l
 generalize qT l = b at *
 refine fi Tryz.func18 Tryz.ntmps18 ?_
 (refine w0 ?_;(repeat' first|refine W2.mk ?_ ?_|refine W1.mk fun hc=>?_))
 refine ah (X:=Nat) (fun i=>∀ j,j < i → mh l j)
   (fun i=>aJ [(0,dN l),(3,iC .i64 ((i + 1:Nat):Int))] []) (fun i=>l.length - i) 0 (fun j h=>absurd h (Nat.not_lt_zero _)) ?_ ?_
 · exact ab
 · rintro i g3
   by_cases hi:i + 1 < l.length
   · have hcc:l[i + 1].prio > l[i].prio ↔ ¬ mh l i:=by
       unfold mh
       constructor
       · intro h q;have:=q hi;omega
       · intro h
         rcases Int.lt_or_le l[i].prio l[i + 1].prio with q|q
         · exact q
         · exact absurd (fun _=>q) h
     (refine w0 ?_;(repeat' first|refine W2.mk ?_ ?_|refine W1.mk fun hc=>?_))
     · have hbf:b = false:=by
         cases b with
         | false=>rfl
         | true=>exact absurd (hb.1 rfl i) (hcc.1 (by assumption))
       rw [hbf]
       refine aO ?_
       exact af rfl rfl
     · refine ⟨i + 1,fun j hj=>?_,by omega,?_⟩
       · rcases Nat.lt_or_ge j i with q|q
         · exact g3 j q
         · obtain rfl:j = i:=by omega
           exact Decidable.of_not_not fun q=>(by assumption:¬ l[j + 1].prio > l[j].prio) (hcc.2 q)
       · exact ab
   · have hbt:b = true:=hb.2 fun j h=>by
       rcases Nat.lt_or_ge j i with q|q
       · exact g3 j q h
       · omega
     rw [hbt]
     (refine w0 ?_;(repeat' first|refine W2.mk ?_ ?_|refine W1.mk fun hc=>?_))
     refine aO ?_
     exact af rfl rfl
theorem B0 (l:List It) (hl:l.length ≤ 1000000000) (x:It):Fn Tryz.prog 19 [dN l,oP x] (ig (((l.filter fun y=>xG y x).length:Nat):Int)):=by
 have hle:=List.length_filter_le (fun y=>xG y x) l
 generalize hN:(l.filter fun y=>xG y x).length = N at *
 refine fi Tryz.func19 Tryz.ntmps19 ?_
 (refine w0 ?_;(repeat' first|refine W2.mk ?_ ?_|refine W1.mk fun hc=>?_))
 refine ah (X:=Nat × Nat) (fun t=>t.1 ≤ l.length ∧ t.2 + ((l.drop t.1).filter fun y=>xG y x).length = N)
   (fun t=>aJ [(0,dN l),(3,.ptr 3 0 0),(5,iC .i64 (t.2:Nat)),(6,iC .i64 (t.1:Nat))] [(3,.box 61 ((itP x).map .per))]) (fun t=>l.length - t.1) (0,0) ⟨Nat.zero_le _,by simpa using hN⟩ ?_ ?_
 · exact ab
 · rintro ⟨i,c⟩ ⟨g1,g2⟩
   simp only at g1 g2 ⊢
   by_cases hi:i < l.length
   · rw [List.drop_eq_getElem_cons hi,List.filter_cons] at g2
     have hE:=DR l[i] x
     generalize xG l[i] x = b at *
     cases b with
     | true=>
       simp only [if_true,List.length_cons] at g2
       (refine w0 ?_;(repeat' (first|refine W2.mk ?_ ?_|refine W1.mk fun hc=>?_|((first|apply aB rfl|apply aC rfl|apply aD rfl|apply aF rfl);(focus (first|(exact bw (us:=encIt l[i]) (vs:=encIt x) ⟨rfl,rfl,rfl⟩ rfl rfl rfl (by first|exact .inl ⟨rfl,rfl⟩|exact .inr ⟨rfl,rfl⟩) KH rfl hE)|(apply bt;(focus rfl);apply ag rfl rfl rfl rfl rfl;first|(exact bw (us:=encIt l[i]) (vs:=encIt x) ⟨rfl,rfl,rfl⟩ rfl rfl rfl (by first|exact .inl ⟨rfl,rfl⟩|exact .inr ⟨rfl,rfl⟩) KH rfl hE))));refine w0 ?_))))
       refine ⟨(i + 1,c + 1),⟨by simp only;omega,by simp only;omega⟩,by simp only;omega,?_⟩
       exact ab
     | false=>
       simp only [Bool.false_eq_true,if_false] at g2
       (refine w0 ?_;(repeat' (first|refine W2.mk ?_ ?_|refine W1.mk fun hc=>?_|((first|apply aB rfl|apply aC rfl|apply aD rfl|apply aF rfl);(focus (first|(exact bw (us:=encIt l[i]) (vs:=encIt x) ⟨rfl,rfl,rfl⟩ rfl rfl rfl (by first|exact .inl ⟨rfl,rfl⟩|exact .inr ⟨rfl,rfl⟩) KH rfl hE)|(apply bt;(focus rfl);apply ag rfl rfl rfl rfl rfl;first|(exact bw (us:=encIt l[i]) (vs:=encIt x) ⟨rfl,rfl,rfl⟩ rfl rfl rfl (by first|exact .inl ⟨rfl,rfl⟩|exact .inr ⟨rfl,rfl⟩) KH rfl hE))));refine w0 ?_))))
       refine ⟨(i + 1,c),⟨by simp only;omega,by simp only;omega⟩,by simp only;omega,?_⟩
       exact ab
   · obtain rfl:i = l.length:=by omega
     rw [List.drop_length] at g2
     have g2:c = N:=by simpa using g2
     subst g2
     (refine w0 ?_;(repeat' first|refine W2.mk ?_ ?_|refine W1.mk fun hc=>?_))
     refine aO ?_
     exact az rfl rfl
theorem B1 (R:List Rg) (hR:R.length ≤ 1000000000) (bs:List Bool) (pr sd:Int) (hs:Int → Int → Bool) (x:It) (hk:x.key.size ≤ 1000000000)
   (hH:0 < bs.length → Fn Tryz.prog 199 [.per (lx bs pr sd),oQ x.rep x.cnt] (cU (hs x.rep x.cnt))) (h0:bs.length = 0 → hs x.rep x.cnt = false) :
   Fn Tryz.prog 161 [db R,.per (lx bs pr sd),oP x] (ig (e8 R hs x)):=by
 have h1:=mZ R x.key hR hk
 unfold e8
 generalize bn R x.key = a at *
 generalize hs x.rep x.cnt = c at *
 by_cases hb:0 < bs.length
 · replace hH:=hH hb
   clear h0
   cases a <;> cases c
   all_goals
     refine fi Tryz.func161 Tryz.ntmps161 ?_
     (have kc1:=h1;have kc2:=hH;refine w0 ?_;(repeat' first|refine W2.mk ?_ ?_|refine W1.mk fun hc=>?_);all_goals clear kc2 kc1)
     refine aO ?_
     exact az rfl (by simp)
 · rw [h0 (by omega)]
   clear hH
   cases a
   all_goals
     refine fi Tryz.func161 Tryz.ntmps161 ?_
     (have kc1:=h1;refine w0 ?_;(repeat' first|refine W2.mk ?_ ?_|refine W1.mk fun hc=>?_);all_goals clear kc1)
     refine aO ?_
     exact az rfl (by simp)
theorem B2 (R:List Rg) (bs:List Bool) (pr sd:Int) (hs:Int → Int → Bool) (x y:It) (hk:x.key.size ≤ 1000000000)
   (h1:Fn Tryz.prog 161 [db R,.per (lx bs pr sd),oP x] (ig (e8 R hs x))) (h2:Fn Tryz.prog 161 [db R,.per (lx bs pr sd),oP y] (ig (e8 R hs y))) :
   Fn Tryz.prog 114 [db R,.per (lx bs pr sd),oP x,oP y] (cU (bJ (nl R hs x) (nl R hs y))):=by
 have h3:=gn x.key y.key (by omega)
 have hE:bJ (nl R hs x) (nl R hs y) = (if x.prio ≠ y.prio then decide (x.prio > y.prio) else if e8 R hs x ≠ e8 R hs y then decide (e8 R hs x < e8 R hs y) else decide (bO x.key y.key < 0)):=by
   unfold bJ oJ nl
   simp only
   by_cases a:x.prio > y.prio
   · rw [if_pos a,if_pos (by omega),decide_eq_true (by decide),decide_eq_true a]
   · rw [if_neg a]
     by_cases b:x.prio < y.prio
     · rw [if_pos b,if_pos (by omega),decide_eq_false (by decide),decide_eq_false a]
     · rw [if_neg b,if_neg (by omega:¬ x.prio ≠ y.prio)]
       by_cases c:e8 R hs x ≠ e8 R hs y
       · rw [if_pos c,if_pos c,decide_eq_decide];omega
       · rw [if_neg c,if_neg c]
 rw [hE]
 generalize e8 R hs x = cx at *
 generalize e8 R hs y = cy at *
 generalize decide (bO x.key y.key < 0) = d at *
 refine fi Tryz.func114 Tryz.ntmps114 ?_
 (have kc1:=h1;have kc2:=h2;have kc3:=h3;refine w0 ?_;(repeat' first|refine W2.mk ?_ ?_|refine W1.mk fun hc=>?_);all_goals clear kc3 kc2 kc1)
 · rw [if_pos (by assumption)]
   refine aO ?_
   exact af rfl rfl
 · rw [if_neg (by omega),if_pos (by assumption)]
   refine aO ?_
   exact af rfl rfl
 · rw [if_neg (by omega),if_neg (by omega)]
   refine aO ?_
   exact af rfl rfl
end
end Go.Proofs.YtembiemaiacdfaaGreat
namespace Go.Proofs.YtembiemaiacdfaaGreat
open Go.RowKit
theorem wy {α β:Type} {lt:β → β → Bool} {f:α → β} (x:α):∀ (l r:List α),iE lt (f x) (l.map f) (r.map f) = (iE (fun x y=>lt (f x) (f y)) x l r).map f
 | [],r=>by simp [iE]
 | y :: l,r=>by
   have ih:=wy (lt:=lt) (f:=f) x l (y :: r)
   rw [List.map_cons] at ih
   rw [List.map_cons,iE,iE]
   split
   · exact ih
   · simp
theorem Gg {α β:Type} {lt:β → β → Bool} {f:α → β} (l:List α):cz lt (l.map f) = (cz (fun x y=>lt (f x) (f y)) l).map f:=by
 unfold cz
 have:∀ (l p:List α),List.foldl (fP lt) (p.map f) (l.map f) = (List.foldl (fP fun x y=>lt (f x) (f y)) p l).map f:=by
   intro l
   induction l with
   | nil=>intro p;rfl
   | cons x l ih=>
     intro p
     rw [List.map_cons,List.foldl_cons,List.foldl_cons,← ih]
     congr 1
     unfold fP
     rw [← List.map_reverse]
     exact wy x _ []
 exact this l []
abbrev wQ (R:List Rg) (hs:Int → Int → Bool) (x y:It):Bool:=bJ (nl R hs x) (nl R hs y)
theorem nm (R:List Rg) (hs:Int → Int → Bool) (l:List It):cD R hs l = cz (wQ R hs) l:=by
 unfold cD
 rw [Gg,List.map_map]
 exact List.map_id _
theorem tZ (R:List Rg) (hs:Int → Int → Bool):oT (wQ R hs):=⟨fun _=>cI.irr _,fun _ _ _=>cI.tr _ _ _,fun _ _ _=>cI.ntr _ _ _⟩
theorem lr (R:List Rg) (hs:Int → Int → Bool) (l:List It):(cD R hs l).length = l.length:=by rw [nm,gr]
theorem wz (R:List Rg) (hs:Int → Int → Bool) (l:List It) (x:It):((cD R hs l).filter fun y=>xG y x).length = (l.filter fun y=>xG y x).length:=by
 have ha:=(b8 (tZ R hs) l).2 x
 rw [← nm] at ha
 have key:∀ m:List It,(m.filter fun y=>xG y x) = (m.filter (pb (wQ R hs) x)).filter fun y=>xG y x:=fun m=>by
   rw [List.filter_filter]
   apply List.filter_congr
   intro y _
   by_cases h:xG y x = true
   · have:=(lg y x).1 h
     subst this
     rw [qj (tZ R hs),Bool.and_true]
   · rw [Bool.not_eq_true] at h;rw [h];rfl
 rw [key,key l,ha]
theorem B3 (R:List Rg) (hs:Int → Int → Bool) (l:List It) {i:Nat} (hi:i + 1 < (cD R hs l).length):wQ R hs ((cD R hs l)[i + 1]) ((cD R hs l)[i]) = false:=by
 have h:=(b8 (tZ R hs) l).1
 rw [← nm] at h
 exact List.pairwise_iff_getElem.1 h i (i + 1) (by omega) hi (by omega)
theorem wA (R:List Rg) (hs:Int → Int → Bool) (l:List It):qT (cD R hs l) = true:=by
 rw [qU]
 intro i hi
 have h:=B3 R hs l hi
 rw [← Bool.not_eq_true,nj] at h
 simp only [nl] at h
 rcases Int.lt_or_le ((cD R hs l)[i]).prio ((cD R hs l)[i + 1]).prio with q|q
 · exact absurd (.inl q) h
 · exact q
section
variable {P:Program} {n t:Nat} {ops:Array Oper} {o:Oper} {S:St}
end
section
theorem Gi (R:List Rg) (bs:List Bool) (pr sd:Int) (hs:Int → Int → Bool) (l:List It) (hl:l.length ≤ 1000000)
   (hAh:∀ x ∈ l,∀ y ∈ l,Fn Tryz.prog 114 [db R,.per (lx bs pr sd),oP x,oP y] (cU (bJ (nl R hs x) (nl R hs y)))) :
   Fn Tryz.prog 61 [db R,.per (lx bs pr sd),dN l] (.per (da (cD R hs l))):=by
 have hm:∀ k,∀ y ∈ cz (wQ R hs) (l.take k),y ∈ l:=fun k y hy=>List.mem_of_mem_take ((jq (tZ R hs)).1 hy)
 have hlen:∀ k,(cz (wQ R hs) (l.take k)).length ≤ l.length:=fun k=>by rw [gr,List.length_take];omega
 have hstep:∀ k (h:k < l.length),cz (wQ R hs) (l.take (k + 1)) = fP (wQ R hs) (cz (wQ R hs) (l.take k)) l[k]:=fun k h=>by
   unfold cz;rw [List.take_succ_eq_append_getElem h,List.foldl_append];rfl
 rw [nm]
 refine fi Tryz.func61 Tryz.ntmps61 ?_
 (refine w0 ?_;(repeat' first|refine W2.mk ?_ ?_|refine W1.mk fun hc=>?_))
 refine cc (bv 7 600 61 7 rfl rfl) (cc (gl 600 _ 61 7 rfl rfl) ?_)
 refine ah (X:=Nat) (fun k=>k ≤ l.length)
   (fun k=>aJ [(0,db R),(2,dN l),(4,.ptr 4 0 0),(7,.per (da (cz (wQ R hs) (l.take k)))),(8,iC .i64 (k:Nat))] [(4,.box 50 [.per (bK 1 (bs.map boolP)),iC .i64 pr,iC .u64 sd])]) (fun k=>l.length - k) 0 (Nat.zero_le _) ?_ ?_
 · exact ab
 · rintro k hk
   by_cases hlt:k < l.length
   · have hst:=hstep k hlt
     have hmk:=hm k
     have hlk:=hlen k
     have hxm:=List.getElem_mem hlt
     generalize cz (wQ R hs) (l.take k) = O at *
     clear hm hlen hstep
     (repeat' (first|refine cl ?_|refine bh ?_|refine bx ?_|refine bz ?_|refine cm ?_|refine aW ?_|refine cj ?_|refine ck (by kernel_rfl) ?_|(refine eU rfl rfl ⟨fun hc=>?_,fun hc=>?_⟩ <;> (repeat rw [List.length_map] at hc) <;> (try exact cP hc))|((first|apply aB rfl|apply aC rfl|apply aD rfl|apply aF rfl);focus (first|exact dn|fail))|refine bB ?_|refine bD ?_|refine bF ?_|refine dv ?_|refine dw ?_|refine bG ?_|refine bi rfl ?_|((first|refine eV rfl rfl rfl ⟨fun hc=>?_,fun hc=>?_⟩|refine eW rfl rfl rfl ⟨fun hc=>?_,fun hc=>?_⟩) <;> (fail_if_success (have q:(true = true):=hc)) <;> (fail_if_success (have q:(false = false):=hc)) <;> (repeat rw [List.length_map] at hc) <;> (try exact cP hc))|refine aZ rfl rfl (fun hc=>?_) ?_))
     refine ah (X:=List It × List It) (fun p=>p.1 ++ p.2 = O ∧ iE (wQ R hs) l[k] p.1.reverse p.2 = fP (wQ R hs) O l[k])
       (fun p=>aJ [(0,db R),(2,dN l),(4,.ptr 4 0 0),(7,.per (da O)),(8,iC .i64 (k:Nat)),(9,iC .i64 (p.1.length:Nat))] [(4,.box 50 [.per (bK 1 (bs.map boolP)),iC .i64 pr,iC .u64 sd])]) (fun p=>p.1.length) (O,[]) ⟨by simp,rfl⟩ ?_ ?_
     · exact ab
     · rintro ⟨p1,p2⟩ ⟨q1,q2⟩
       simp only at q1 q2 ⊢
       have hfin:fP (wQ R hs) O l[k] = p1 ++ l[k] :: p2 → Cnt.per (bK 7 ((([]:List (List PV)) ++ (O.take p1.length).map itP) ++ [itP l[k]] ++ (O.drop p1.length).map itP)) = .per (da (cz (wQ R hs) (l.take (k + 1)))):=fun h=>by
         rw [hst,h,← q1]
         simp [da]
       have hpl:p1.length ≤ O.length:=by rw [← q1,List.length_append];omega
       rcases dQ p1 with rfl|⟨p1',y,rfl⟩
       · have hf:=hfin (by rw [← q2];rfl)
         clear hfin hAh
         (refine w0 ?_;(repeat' first|refine W2.mk ?_ ?_|refine W1.mk fun hc=>?_))
         refine kg (bv 37 601 61 7 rfl rfl) ?_
         (refine w0 ?_;(repeat' first|refine W2.mk ?_ ?_|refine W1.mk fun hc=>?_))
         refine ⟨k + 1,by omega,by omega,an (gl 601 _ 61 7 rfl rfl) ?_⟩
         refine lB ?_ ?_
         · ((repeat (first|exact gd.nil|(refine gd.cons ?_ ?_;rotate_left)));(all_goals try (first|rfl|(refine GP ?_;first|omega|(simp;done)|(simp;omega))|(refine ro ?_;first|(simp;done)|(simp [*];done)))))
           exact hf
         · ((repeat (first|exact gg.nil|(refine gg.cons ?_ ?_;rotate_left)));(all_goals try (first|rfl|(refine nK ?_;(rw [List.map_append] <;> rfl);done)|(refine lC ?_;(rw [List.map_append] <;> rfl);done))))
       · obtain ⟨j,hj⟩:∃ j,p1'.length = j:=⟨_,rfl⟩
         have hj1:(p1' ++ [y]).length = j + 1:=by simp;omega
         have hyl:=hmk y (by rw [← q1];simp)
         have hm:=hAh l[k] hxm y hyl
         have HJ:(O.map itP)[j]? = some (itP y):=by
           rw [List.getElem?_map,← q1,List.append_assoc,List.getElem?_append_right (by omega),hj,Nat.sub_self];rfl
         rw [hj1] at hfin hpl
         rw [hj1]
         have hrev:(p1' ++ [y]).reverse = y :: p1'.reverse:=by simp
         rw [hrev,iE] at q2
         by_cases hxy:wQ R hs l[k] y = true
         · rw [if_pos hxy] at q2
           have hxy':bJ (nl R hs l[k]) (nl R hs y) = true:=hxy
           rw [hxy'] at hm
           clear hfin hAh
           (repeat' (first|refine cl ?_|refine bh ?_|refine bx ?_|refine bz ?_|refine cm ?_|refine aW ?_|refine cv dm ?_|refine cj ?_|refine ck (by kernel_rfl) ?_|(refine eU rfl rfl ⟨fun hc=>?_,fun hc=>?_⟩ <;> (repeat rw [List.length_map] at hc) <;> (try exact cP hc))|((first|apply aB rfl|apply aC rfl|apply aD rfl|apply aF rfl);focus (first|((apply ax 12;(focus rfl);exact fe ⟨rfl,rfl,rfl⟩ rfl inferInstance inferInstance rfl rfl rfl rfl HJ))|(apply bt;(focus rfl);apply ag rfl rfl rfl rfl rfl;((apply ax 12;(focus rfl);exact fe ⟨rfl,rfl,rfl⟩ rfl inferInstance inferInstance rfl rfl rfl rfl HJ)))|exact dn|exact mn (hm)|fail))|refine bB ?_|refine bD ?_|refine bF ?_|refine dv ?_|refine dw ?_|refine bG ?_|refine bi rfl ?_|((first|refine eV rfl rfl rfl ⟨fun hc=>?_,fun hc=>?_⟩|refine eW rfl rfl rfl ⟨fun hc=>?_,fun hc=>?_⟩) <;> (fail_if_success (have q:(true = true):=hc)) <;> (fail_if_success (have q:(false = false):=hc)) <;> (repeat rw [List.length_map] at hc) <;> (try exact cP hc))|refine aZ rfl rfl (fun hc=>?_) ?_))
           refine ⟨(p1',y :: p2),⟨by simp only;rw [← q1];simp,q2⟩,by simp only;omega,?_⟩
           simp only [hj]
           exact ab
         · rw [if_neg hxy] at q2
           have hxy':bJ (nl R hs l[k]) (nl R hs y) = false:=by simpa using hxy
           rw [hxy'] at hm
           have hf:=hfin (by rw [← q2];simp)
           clear hfin hAh
           (repeat' (first|refine cl ?_|refine bh ?_|refine bx ?_|refine bz ?_|refine cm ?_|refine aW ?_|refine cv dm ?_|refine cj ?_|refine ck (by kernel_rfl) ?_|(refine eU rfl rfl ⟨fun hc=>?_,fun hc=>?_⟩ <;> (repeat rw [List.length_map] at hc) <;> (try exact cP hc))|((first|apply aB rfl|apply aC rfl|apply aD rfl|apply aF rfl);focus (first|((apply ax 12;(focus rfl);exact fe ⟨rfl,rfl,rfl⟩ rfl inferInstance inferInstance rfl rfl rfl rfl HJ))|(apply bt;(focus rfl);apply ag rfl rfl rfl rfl rfl;((apply ax 12;(focus rfl);exact fe ⟨rfl,rfl,rfl⟩ rfl inferInstance inferInstance rfl rfl rfl rfl HJ)))|exact dn|exact mn (hm)|fail))|refine bB ?_|refine bD ?_|refine bF ?_|refine dv ?_|refine dw ?_|refine bG ?_|refine bi rfl ?_|((first|refine eV rfl rfl rfl ⟨fun hc=>?_,fun hc=>?_⟩|refine eW rfl rfl rfl ⟨fun hc=>?_,fun hc=>?_⟩) <;> (fail_if_success (have q:(true = true):=hc)) <;> (fail_if_success (have q:(false = false):=hc)) <;> (repeat rw [List.length_map] at hc) <;> (try exact cP hc))|refine aZ rfl rfl (fun hc=>?_) ?_))
           refine kg (bv 37 601 61 7 rfl rfl) ?_
           (refine w0 ?_;(repeat' first|refine W2.mk ?_ ?_|refine W1.mk fun hc=>?_))
           refine ⟨k + 1,by omega,by omega,an (gl 601 _ 61 7 rfl rfl) ?_⟩
           refine lB ?_ ?_
           · ((repeat (first|exact gd.nil|(refine gd.cons ?_ ?_;rotate_left)));(all_goals try (first|rfl|(refine GP ?_;first|omega|(simp;done)|(simp;omega))|(refine ro ?_;first|(simp;done)|(simp [*];done)))))
             exact hf
           · ((repeat (first|exact gg.nil|(refine gg.cons ?_ ?_;rotate_left)));(all_goals try (first|rfl|(refine nK ?_;(rw [List.map_append] <;> rfl);done)|(refine lC ?_;(rw [List.map_append] <;> rfl);done))))
   · obtain rfl:k = l.length:=by omega
     rw [List.take_length]
     (refine w0 ?_;(repeat' first|refine W2.mk ?_ ?_|refine W1.mk fun hc=>?_))
     refine aO ?_
     exact b0 rfl
end
end Go.Proofs.YtembiemaiacdfaaGreat
