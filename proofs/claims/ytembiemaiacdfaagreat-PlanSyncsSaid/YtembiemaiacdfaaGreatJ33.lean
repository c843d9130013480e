/- Texts joined: Od. -/
import Derived.Test.YtembiemaiacdfaaGreatJ21
import Derived.Test.YtembiemaiacdfaaGreatJ12
import Derived.Test.YtembiemaiacdfaaGreatJ23
import Derived.Test.YtembiemaiacdfaaGreatJ32
import Derived.Test.YtembiemaiacdfaaGreatJ22
import Derived.Test.YtembiemaiacdfaaGreatJ05
set_option maxRecDepth 10000
set_option maxHeartbeats 8000000
namespace Go.Proofs.YtembiemaiacdfaaGreat
open Go.RowKit
abbrev Snt:=It × Int
abbrev sntP (x:Snt):List PV:=itP x.1 ++ [aq (.int .i64 x.2)]
abbrev L3 (x:Snt):Cnt:=.per (bP (sntP x))
def rf (x y:Snt):Int:=if x.1.prio > y.1.prio then -1 else if x.1.prio < y.1.prio then 1 else if x.2 ≠ y.2 then x.2 - y.2 else bG x.1.key y.1.key
def bW (x y:Snt):Bool:=decide (rf x y < 0)
def ma (x:Snt):Prop:=x.1.key.size ≤ 1000000000 ∧ 0 ≤ x.2 ∧ x.2 ≤ 3
theorem ri (x y:Snt):bW x y = true ↔ (y.1.prio < x.1.prio ∨ (x.1.prio = y.1.prio ∧ (x.2 < y.2 ∨ (x.2 = y.2 ∧ x.1.key < y.1.key)))):=by
 unfold bW rf
 rw [decide_eq_true_iff,← eM]
 split
 · constructor
   · intro _;left;omega
   · intro _;omega
 · split
   · constructor
     · intro h;omega
     · rintro (h|⟨h,_⟩) <;> omega
   · split
     · constructor
       · intro h;right;exact ⟨by omega,.inl (by omega)⟩
       · rintro (h|⟨_,h|⟨h,_⟩⟩) <;> omega
     · rename_i h3
       have h3:=Decidable.of_not_not h3
       constructor
       · intro h;right;exact ⟨by omega,.inr ⟨h3,h⟩⟩
       · rintro (h|⟨_,h|⟨_,h⟩⟩)
         · omega
         · omega
         · exact h
theorem dC:pk bW where
 irr x:=by
   rw [← Bool.not_eq_true,ri]
   rintro (h|⟨_,h|⟨_,h⟩⟩)
   · omega
   · omega
   · grind
 tr x y z h1 h2:=by
   rw [ri] at *
   rcases h1 with h1|⟨h1,h1'|⟨h1',h1''⟩⟩ <;> rcases h2 with h2|⟨h2,h2'|⟨h2',h2''⟩⟩
   all_goals first
     | (left;omega)
     | (right;refine ⟨by omega,.inl (by omega)⟩)
     | (right;refine ⟨by omega,.inr ⟨by omega,by grind⟩⟩)
 ntr x y z h1 h2:=by
   rw [← Bool.not_eq_true,ri] at *
   rintro (h|⟨h,h'|⟨h',h''⟩⟩)
   · apply h1
     by_cases q:y.1.prio < x.1.prio
     · exact .inl q
     · exfalso;exact h2 (.inl (by omega))
   · by_cases q:y.1.prio = x.1.prio
     · by_cases q2:x.2 < y.2
       · exact h1 (.inr ⟨by omega,.inl q2⟩)
       · exact h2 (.inr ⟨by omega,.inl (by omega)⟩)
     · rcases Int.lt_or_gt_of_ne q with g|g
       · exact h1 (.inl g)
       · exact h2 (.inl (by omega))
   · by_cases q:y.1.prio = x.1.prio
     · by_cases q2:x.2 = y.2
       · by_cases q3:x.1.key < y.1.key
         · exact h1 (.inr ⟨by omega,.inr ⟨q2,q3⟩⟩)
         · exact h2 (.inr ⟨by omega,.inr ⟨by omega,by grind⟩⟩)
       · rcases Int.lt_or_gt_of_ne q2 with g|g
         · exact h1 (.inr ⟨by omega,.inl g⟩)
         · exact h2 (.inr ⟨by omega,.inl (by omega)⟩)
     · rcases Int.lt_or_gt_of_ne q with g|g
       · exact h1 (.inl g)
       · exact h2 (.inl (by omega))
section
theorem ny (x y:Snt) (hx:ma x) (hy:ma y):el Tryz.prog 142 [L3 x,L3 y] [] (.per (aq (.int .i64 (rf x y)))) []:=by
 obtain ⟨⟨xk,xr,xc,xa,xp,xd,xb⟩,xs⟩:=x
 obtain ⟨⟨yk,yr,yc,ya,yp,yd,yb⟩,ys⟩:=y
 obtain ⟨hk,hx0,hx3⟩:=hx
 obtain ⟨-,hy0,hy3⟩:=hy
 simp only at hk hx0 hx3 hy0 hy3
 have h1:=e7 xk yk (by omega)
 have hE:rf (⟨xk,xr,xc,xa,xp,xd,xb⟩,xs) (⟨yk,yr,yc,ya,yp,yd,yb⟩,ys) = (if xp > yp then -1 else if xp < yp then 1 else if xs ≠ ys then xs - ys else bG xk yk):=rfl
 rw [hE]
 show el Tryz.prog _ [.per (bP [aq (.string xk),aq (.int .i64 xr),aq (.int .i64 xc),aq (.int .i64 xa),aq (.int .i64 xp),aq (.bool xd),aq (.string xb),aq (.int .i64 xs)]),.per (bP [aq (.string yk),aq (.int .i64 yr),aq (.int .i64 yc),aq (.int .i64 ya),aq (.int .i64 yp),aq (.bool yd),aq (.string yb),aq (.int .i64 ys)])] [] _ []
 refine fm Tryz.func142 Tryz.ntmps142 ?_
 (have kc1:=h1;refine w0 ?_;(repeat' first|refine W2.mk ?_ ?_|refine W1.mk fun hc=>?_);all_goals clear kc1)
 · rw [if_pos (by assumption)]
   (refine ⟨(by first|exact .inl rfl|exact .inr rfl),bR [] rfl rfl .nil ?_⟩)
   exact bf rfl rfl
 · rw [if_neg (by assumption),if_pos (by assumption)]
   (refine ⟨(by first|exact .inl rfl|exact .inr rfl),bR [] rfl rfl .nil ?_⟩)
   exact bf rfl rfl
 · rw [if_neg (by assumption),if_neg (by assumption),if_pos (by assumption)]
   (refine ⟨(by first|exact .inl rfl|exact .inr rfl),bR [] rfl rfl .nil ?_⟩)
   exact bf rfl rfl
 · rw [if_neg (by assumption),if_neg (by assumption),if_neg (by omega)]
   (refine ⟨(by first|exact .inl rfl|exact .inr rfl),bR [] rfl rfl .nil ?_⟩)
   exact bf rfl rfl
end
abbrev fR:Cnt:=.per (aq (.func (.func 142) #[] #[]))
abbrev cZ (l:List Snt):Blk:=.row 185 8 (l.map sntP)
def jR (l:List Snt):Prop:=∀ x ∈ l,ma x
section
theorem sW (A M Z:List Snt) (hk:jR M) (hl:(A ++ M ++ Z).length ≤ 1000000000):el Tryz.prog 213 [.row 1000 0,iC .i64 (A.length:Nat),iC .i64 ((A.length + M.length:Nat):Int),fR] [(1000,cZ (A ++ M ++ Z))] .any [(1000,cZ (A ++ dc bW M ++ Z))]:=by
 generalize hR:A ++ dc bW M ++ Z = R
 generalize hb:A.length + M.length = b
 simp only [List.length_append] at hl
 refine fm Tryz.func213 Tryz.ntmps213 ?_
 (refine w0 ?_;(repeat' first|refine W2.mk ?_ ?_|refine W1.mk fun hc=>?_))
 refine ah (X:=Nat × List Snt × List Snt) (fun x=>A.length < x.1 ∧ x.1 ≤ b + 1 ∧ A.length + x.2.1.length = min x.1 b ∧ A.length + x.2.1.length + x.2.2.length = b ∧ jR x.2.1 ∧ jR x.2.2 ∧ A ++ x.2.2.foldl (gC bW) x.2.1 ++ Z = R)
   (fun x=>aN [(0,.row 1000 0),(1,iC .i64 (A.length:Nat)),(2,iC .i64 (b:Nat)),(3,fR),(8,iC .i64 (x.1:Nat))] [(1000,cZ (A ++ x.2.1 ++ (x.2.2 ++ Z)))]) (fun x=>b + 1 - x.1) (A.length + 1,M.take 1,M.drop 1) ?_ ?_ ?_
 · refine ⟨by simp only;omega,by simp only;omega,by simp only [List.length_take];omega,by simp only [List.length_take,List.length_drop];omega,fun x h=>hk x (List.mem_of_mem_take h),fun x h=>hk x (List.mem_of_mem_drop h),?_⟩
   rw [← hR]
   cases M with
   | nil=>rfl
   | cons x M=>rfl
 · have e:A ++ M.take 1 ++ (M.drop 1 ++ Z) = A ++ M ++ Z:=by
     rw [List.append_assoc,← List.append_assoc (M.take 1),List.take_append_drop,List.append_assoc]
   rw [e]
   exact ab
 · rintro ⟨i,p,q⟩ ⟨h1,h2,h3,h4,hkp,hkq,h5⟩
   simp only at h1 h2 h3 h4 hkp hkq h5 ⊢
   by_cases hlt:i < b
   · obtain ⟨x,q,rfl⟩:∃ x q',q = x :: q':=by
       cases q with
       | nil=>simp at h4;omega
       | cons x q=>exact ⟨x,q,rfl⟩
     have hip:A.length + p.length = i:=by omega
     clear h3
     have hkx:=hkq x (by simp)
     simp only [List.length_cons,List.foldl_cons] at h4 h5
     (repeat' (first|refine cN ?_|refine bD ?_|refine cc ?_|refine cd ?_|refine cO ?_|refine bi ?_|refine cL ?_|refine cM (by kernel_rfl) ?_|(refine gw rfl rfl ⟨fun hc=>?_,fun hc=>?_⟩ <;> (repeat rw [List.length_map] at hc) <;> (try exact dy hc))|((first|apply aD rfl|apply aF rfl|apply aG rfl|apply aH rfl);focus (first|exact dY|fail))|refine ce ?_|refine cg ?_|refine ci ?_|refine d8 ?_|refine d9 ?_|refine cj ?_|refine bF rfl ?_|((first|refine gx rfl rfl rfl ⟨fun hc=>?_,fun hc=>?_⟩|refine gy rfl rfl rfl ⟨fun hc=>?_,fun hc=>?_⟩) <;> (fail_if_success (have q:(true = true):=hc)) <;> (fail_if_success (have q:(false = false):=hc)) <;> (repeat rw [List.length_map] at hc) <;> (try exact dy hc))|refine br rfl rfl (fun hc=>?_) ?_))
     refine ah (X:=List Snt × List Snt) (fun y=>y.1.length + y.2.length = p.length ∧ jR y.1 ∧ jR y.2 ∧ iU bW x y.1.reverse y.2 = gC bW p x)
       (fun y=>aN [(0,.row 1000 0),(1,iC .i64 (A.length:Nat)),(2,iC .i64 (b:Nat)),(3,fR),(8,iC .i64 (i:Nat)),(9,iC .i64 ((A.length + y.1.length:Nat):Int))] [(1000,cZ (A ++ y.1 ++ x :: (y.2 ++ (q ++ Z))))]) (fun y=>y.1.length) (p,[]) ⟨by simp,hkp,fun x h=>by simp at h,rfl⟩ ?_ ?_
     · subst hip
       exact ab
     · rintro ⟨p1,p2⟩ ⟨g1,gk1,gk2,g2⟩
       simp only at g1 gk1 gk2 g2 ⊢
       have out:gC bW p x = p1 ++ x :: p2 → (∃ z:Nat × List Snt × List Snt,(A.length < z.1 ∧ z.1 ≤ b + 1 ∧ A.length + z.2.1.length = min z.1 b ∧ A.length + z.2.1.length + z.2.2.length = b ∧ jR z.2.1 ∧ jR z.2.2 ∧ A ++ z.2.2.foldl (gC bW) z.2.1 ++ Z = R) ∧ z = (i + 1,p1 ++ x :: p2,q)):=fun e=>by
         refine ⟨_,⟨by simp only;omega,by simp only;omega,by simp;omega,by simp;omega,fun y hy=>?_,fun y hy=>hkq y (by simp [hy]),by rw [← e];exact h5⟩,rfl⟩
         rcases List.mem_append.1 hy with h|h
         · exact gk1 y h
         · rcases List.mem_cons.1 h with h|h
           · subst h;exact hkx
           · exact gk2 y h
       have hL0:A ++ p1 ++ x :: (p2 ++ (q ++ Z)) = A ++ (p1 ++ x :: p2) ++ (q ++ Z):=by simp
       rcases cP p1 with rfl|⟨p1',y,rfl⟩
       · have e:gC bW p x = [] ++ x :: p2:=by rw [← g2];rfl
         obtain ⟨z,hz,rfl⟩:=out e
         rw [hL0]
         (refine w0 ?_;(repeat' first|refine W2.mk ?_ ?_|refine W1.mk fun hc=>?_))
         refine ⟨_,hz,by simp only;omega,?_⟩
         exact ab
       · obtain ⟨j,hj⟩:∃ j,A.length + p1'.length = j:=⟨_,rfl⟩
         have hj1:A.length + (p1' ++ [y]).length = j + 1:=by simp;omega
         have hky:=gk1 y (by simp)
         have hm:=ny x y hkx hky
         generalize hL:A ++ (p1' ++ [y]) ++ x :: (p2 ++ (q ++ Z)) = L at *
         have hlen:j + 1 < L.length:=by rw [← hL];simp;omega
         have HJ:(L.map sntP)[j + 1]? = some (sntP x):=by
           rw [List.getElem?_map,← hL,List.getElem?_append_right (by simp;omega),List.length_append,hj1,Nat.sub_self];rfl
         have HJ1:(L.map sntP)[j]? = some (sntP y):=by
           rw [List.getElem?_map,← hL,List.append_assoc,List.append_assoc,List.getElem?_append_right (by omega),List.getElem?_append_right (by omega)]
           rw [show j - A.length - p1'.length = 0 by omega];rfl
         rw [hj1]
         have hrev:(p1' ++ [y]).reverse = y :: p1'.reverse:=by simp
         rw [hrev,iU] at g2
         have HS1:(L.map sntP).set (j + 1) (bI (sntP x) 0 (sntP y)) = (L.set (j + 1) y).map sntP:=by rw [← bp];rfl
         have HJ2:((L.set (j + 1) y).map sntP)[j]? = some (sntP y):=by
           rw [← bp,List.getElem?_set_ne (by omega)];exact HJ1
         have HS2:((L.set (j + 1) y).map sntP).set j (bI (sntP y) 0 (sntP x)) = (A ++ p1' ++ x :: ((y :: p2) ++ (q ++ Z))).map sntP:=by
           rw [bp sntP (L.set (j + 1) y) j x |>.symm.trans rfl |> fun h=>(show ((L.set (j + 1) y).map sntP).set j (bI (sntP y) 0 (sntP x)) = ((L.set (j + 1) y).set j x).map sntP from bp sntP _ j x)]
           rw [← hL,dE (A ++ (p1' ++ [y])) x y _ (j + 1) (by simp;omega),show A ++ (p1' ++ [y]) ++ y :: (p2 ++ (q ++ Z)) = (A ++ p1') ++ y :: (y :: (p2 ++ (q ++ Z))) by simp,dE (A ++ p1') y x _ j (by simp;omega)]
           simp
         by_cases hxy:rf x y < 0
         · rw [if_pos (show bW x y = true from decide_eq_true hxy)] at g2
           clear out
           (refine w0 ?_;(repeat' (first|refine W2.mk ?_ ?_|refine W1.mk fun hc=>?_|((first|apply aD rfl|apply aF rfl|apply aG rfl|apply aH rfl);(focus (first|((apply az 5;(focus rfl);first|exact ae ⟨rfl,rfl,rfl⟩ rfl inferInstance inferInstance rfl rfl rfl HJ rfl rfl rfl|exact ae ⟨rfl,rfl,rfl⟩ rfl inferInstance inferInstance rfl rfl rfl HJ1 rfl rfl rfl))|((apply az 6;(focus rfl);first|exact al ⟨rfl,rfl⟩ rfl inferInstance rfl rfl rfl rfl HJ rfl (.inl rfl) rfl HS1|exact al ⟨rfl,rfl⟩ rfl inferInstance rfl rfl rfl rfl HJ2 rfl (.inl rfl) rfl HS2))|(exact nL [] hm)|(apply bx;(focus rfl);apply ag rfl rfl rfl rfl rfl;first|((apply az 5;(focus rfl);first|exact ae ⟨rfl,rfl,rfl⟩ rfl inferInstance inferInstance rfl rfl rfl HJ rfl rfl rfl|exact ae ⟨rfl,rfl,rfl⟩ rfl inferInstance inferInstance rfl rfl rfl HJ1 rfl rfl rfl))|((apply az 6;(focus rfl);first|exact al ⟨rfl,rfl⟩ rfl inferInstance rfl rfl rfl rfl HJ rfl (.inl rfl) rfl HS1|exact al ⟨rfl,rfl⟩ rfl inferInstance rfl rfl rfl rfl HJ2 rfl (.inl rfl) rfl HS2))|(exact nL [] hm))));refine w0 ?_))))
           refine ⟨(p1',y :: p2),⟨by simp at g1 ⊢;omega,fun z h=>gk1 z (by simp [h]),fun z h=>?_,g2⟩,by simp,?_⟩
           · rcases List.mem_cons.1 h with h|h
             · subst h;exact hky
             · exact gk2 z h
           · simp only [hj]
             exact ab
         · rw [if_neg (show ¬ bW x y = true by unfold bW;rw [decide_eq_true_iff];exact hxy)] at g2
           have e:gC bW p x = (p1' ++ [y]) ++ x :: p2:=by rw [← g2];simp
           obtain ⟨z,hz,rfl⟩:=out e
           (refine w0 ?_;(repeat' (first|refine W2.mk ?_ ?_|refine W1.mk fun hc=>?_|((first|apply aD rfl|apply aF rfl|apply aG rfl|apply aH rfl);(focus (first|((apply az 5;(focus rfl);first|exact ae ⟨rfl,rfl,rfl⟩ rfl inferInstance inferInstance rfl rfl rfl HJ rfl rfl rfl|exact ae ⟨rfl,rfl,rfl⟩ rfl inferInstance inferInstance rfl rfl rfl HJ1 rfl rfl rfl))|(exact nL [] hm)|(apply bx;(focus rfl);apply ag rfl rfl rfl rfl rfl;first|((apply az 5;(focus rfl);first|exact ae ⟨rfl,rfl,rfl⟩ rfl inferInstance inferInstance rfl rfl rfl HJ rfl rfl rfl|exact ae ⟨rfl,rfl,rfl⟩ rfl inferInstance inferInstance rfl rfl rfl HJ1 rfl rfl rfl))|(exact nL [] hm))));refine w0 ?_))))
           refine ⟨_,hz,by simp only;omega,?_⟩
           simp only
           rw [← hL0]
           exact ab
   · have hq:q = []:=List.eq_nil_of_length_eq_zero (by omega)
     subst hq
     simp only [List.foldl_nil] at h5
     (refine w0 ?_;(repeat' first|refine W2.mk ?_ ?_|refine W1.mk fun hc=>?_))
     rw [List.nil_append,h5]
     (refine ⟨(by first|exact .inl rfl|exact .inr rfl),bA [(1000,1000)] rfl rfl ?_⟩;(focus (repeat (first|exact ay.nil|(refine ay.cons rfl ?_ ?_;(focus first|rfl|skip))))))
end
section
end
end Go.Proofs.YtembiemaiacdfaaGreat
namespace Go.Proofs.YtembiemaiacdfaaGreat
open Go.RowKit
def rj (R:List Rg) (hs:Int → Int → Bool) (x:It):Int:=(if bg R x.key then 0 else 2) + (if hs x.rep x.cnt then 1 else 0)
theorem C0 (R:List Rg) (hs:Int → Int → Bool) (x:It):0 ≤ rj R hs x ∧ rj R hs x ≤ 3:=by
 unfold rj;split <;> split <;> omega
def xi (R:List Rg) (hs:Int → Int → Bool) (x:It):Snt:=(x,rj R hs x)
def fy (R:List Rg) (hs:Int → Int → Bool) (l:List It):List It:=(dc bW (l.map (xi R hs))).map Prod.fst
theorem Lb {R:List Rg} {hs:Int → Int → Bool} {l:List It} (hk:jG l):jR (l.map (xi R hs)):=fun x hx=>by
 obtain ⟨y,hy,rfl⟩:=List.mem_map.1 hx
 have:=C0 R hs y
 exact ⟨hk y hy,this.1,this.2⟩
section
theorem GY (R R':List Rg) (hR:R'.length ≤ 12) (hA:∀ s,bg R' s = bg R s) (th:PV) (hs:Int → Int → Bool) (x:It) (hk:x.key.size ≤ 1000000000)
   (hH:Fn Tryz.prog 186 [.per th,lZ x.rep x.cnt] (bO (hs x.rep x.cnt))):Fn Tryz.prog 140 [.per (eB R'),.per th,uK x] (fL (rj R hs x)):=by
 have h1:=AR R' x.key hR hk
 rw [hA] at h1
 unfold rj
 generalize bg R x.key = a at *
 generalize hs x.rep x.cnt = c at *
 cases a <;> cases c
 all_goals
   refine fi Tryz.func140 Tryz.ntmps140 ?_
   (have kc1:=h1;have kc2:=hH;refine w0 ?_;(repeat' first|refine W2.mk ?_ ?_|refine W1.mk fun hc=>?_);all_goals clear kc2 kc1)
   refine aQ ?_
   exact aA rfl (by simp)
theorem GZ (R:List Rg) (hR:R.length ≤ 12) (th:PV) (hs:Int → Int → Bool) (hH:∀ r c,Fn Tryz.prog 186 [.per th,lZ r c] (bO (hs r c))) (l:List It) (hk:jG l) (hl:l.length ≤ 1000000)
   (h3:el Tryz.prog 141 [.row 1000 0,fR] [(1000,cZ (l.map (xi R hs)))] .any [(1000,cZ (dc bW (l.map (xi R hs))))]) :
   Fn Tryz.prog 90 [dg R,.per th,di l] (wC (fy R hs l)):=by
 have h1:=(zc R (by have:=List.length_filter_le eJ R;omega) (by omega)).frz
 have hA:=(oj R).2
 have hRl:(oi R).length ≤ 12:=by have:=qr R;omega
 have h2:∀ x ∈ l,Fn Tryz.prog 140 [.per (eB (oi R)),.per th,uK x] (fL (rj R hs x)):=fun x hx=>GY R (oi R) hRl hA th hs x (hk x hx) (hH _ _)
 have hQl:(dc bW (l.map (xi R hs))).length = l.length:=by rw [iA,List.length_map]
 unfold fy
 generalize oi R = R' at *
 generalize dc bW (l.map (xi R hs)) = Q at *
 clear hH hA hRl hR
 refine fi Tryz.func90 Tryz.ntmps90 ?_
 (have kc1:=h1;refine w0 ?_;(repeat' first|refine W2.mk ?_ ?_|refine W1.mk fun hc=>?_);all_goals clear kc1)
 refine ck (bz 7 600 185 8 rfl rfl) ?_
 refine ah (X:=Nat) (fun k=>k ≤ l.length)
   (fun k=>aN [(0,.per (eB R')),(1,.per th),(7,.row 600 0),(15,di l),(16,iC .i64 (l.length:Nat)),(17,iC .i64 (k:Nat))] [(600,cZ ((l.take k).map (xi R hs)))]) (fun k=>l.length - k) 0 (Nat.zero_le _) ?_ ?_
 · exact ab
 · rintro k g1
   by_cases hlt:k < l.length
   · have h4:=h2 l[k] (List.getElem_mem hlt)
     have ht:((l.take (k + 1)).map (xi R hs)).map sntP = ((l.take k).map (xi R hs)).map sntP ++ [sntP (xi R hs l[k])]:=by
       rw [List.take_succ_eq_append_getElem hlt,List.map_append,List.map_append];rfl
     have htl:((l.take k).map (xi R hs)).length ≤ 1000000:=by rw [List.length_map,List.length_take];omega
     generalize (l.take k).map (xi R hs) = A at *
     generalize hB:(l.take (k + 1)).map (xi R hs) = B at *
     clear h1 h2 h3
     (have kc1:=h4;refine w0 ?_;(repeat' first|refine W2.mk ?_ ?_|refine W1.mk fun hc=>?_);all_goals clear kc1)
     refine ⟨k + 1,by omega,by omega,ak (aM 600 601) (ak (aM 601 600) ?_)⟩
     show Le _ _ (aN _ [(600,cZ ((l.take (k + 1)).map (xi R hs)))])
     rw [hB]
     unfold cZ
     rw [ht]
     exact ab
   · obtain rfl:k = l.length:=by omega
     rw [List.take_length]
     clear h1 h2
     (have km1:=(show bv [(1000,600)] _ _ _ _ _ _ from h3);refine w0 ?_;(repeat' first|refine W2.mk ?_ ?_|refine W1.mk fun hc=>?_);all_goals clear km1)
     refine ck (bz 10 700 61 7 rfl rfl) ?_
     refine ah (X:=Nat) (fun k=>k ≤ Q.length)
       (fun k=>aN [(10,.row 700 0),(33,.row 600 0),(34,iC .i64 (Q.length:Nat)),(35,iC .i64 (k:Nat))] [(600,cZ Q),(700,dR ((Q.take k).map Prod.fst))]) (fun k=>Q.length - k) 0 (Nat.zero_le _) ?_ ?_
     · exact ab
     · rintro k g1
       by_cases hlt:k < Q.length
       · have ht:((Q.take (k + 1)).map Prod.fst).map itP = ((Q.take k).map Prod.fst).map itP ++ [itP Q[k].1]:=by
           rw [List.take_succ_eq_append_getElem hlt,List.map_append,List.map_append];rfl
         have htl:((Q.take k).map Prod.fst).length ≤ 1000000:=by rw [List.length_map,List.length_take];omega
         have HQ:(Q.map sntP)[k]? = some (sntP Q[k]):=by rw [List.getElem?_map,List.getElem?_eq_getElem hlt];rfl
         generalize (Q.take k).map Prod.fst = A at *
         generalize hB:(Q.take (k + 1)).map Prod.fst = B at *
         generalize Q[k] = q at *
         clear h3
         (refine w0 ?_;(repeat' (first|refine W2.mk ?_ ?_|refine W1.mk fun hc=>?_|((first|apply aD rfl|apply aF rfl|apply aG rfl|apply aH rfl);(focus (first|((apply az 5;(focus rfl);exact ae ⟨rfl,rfl,rfl⟩ rfl inferInstance inferInstance rfl rfl rfl HQ rfl rfl rfl))|(apply bx;(focus rfl);apply ag rfl rfl rfl rfl rfl;first|((apply az 5;(focus rfl);exact ae ⟨rfl,rfl,rfl⟩ rfl inferInstance inferInstance rfl rfl rfl HQ rfl rfl rfl)))));refine w0 ?_))))
         refine ⟨k + 1,by omega,by omega,ak (aM 700 701) (ak (aM 701 700) ?_)⟩
         show Le _ _ (aN _ [_,(700,dR ((Q.take (k + 1)).map Prod.fst))])
         rw [hB]
         unfold dR
         rw [ht]
         exact ab
       · obtain rfl:k = Q.length:=by omega
         rw [List.take_length]
         clear h3
         (refine w0 ?_;(repeat' first|refine W2.mk ?_ ?_|refine W1.mk fun hc=>?_))
         refine aQ ?_
         exact dq rfl rfl rfl rfl
end
end Go.Proofs.YtembiemaiacdfaaGreat
namespace Go.Proofs.YtembiemaiacdfaaGreat
open Go.RowKit
theorem xj {α β:Type} {lt:β → β → Bool} {f:α → β} (x:α):∀ (l r:List α),iU lt (f x) (l.map f) (r.map f) = (iU (fun x y=>lt (f x) (f y)) x l r).map f
 | [],r=>by simp [iU]
 | y :: l,r=>by
   have ih:=xj (lt:=lt) (f:=f) x l (y :: r)
   rw [List.map_cons] at ih
   rw [List.map_cons,iU,iU]
   split
   · exact ih
   · simp
theorem G1 {α β:Type} {lt:β → β → Bool} {f:α → β} (l:List α):dc lt (l.map f) = (dc (fun x y=>lt (f x) (f y)) l).map f:=by
 unfold dc
 have:∀ (l p:List α),List.foldl (gC lt) (p.map f) (l.map f) = (List.foldl (gC fun x y=>lt (f x) (f y)) p l).map f:=by
   intro l
   induction l with
   | nil=>intro p;rfl
   | cons x l ih=>
     intro p
     rw [List.map_cons,List.foldl_cons,List.foldl_cons,← ih]
     congr 1
     unfold gC
     rw [← List.map_reverse]
     exact xj x _ []
 exact this l []
abbrev M6 (R:List Rg) (hs:Int → Int → Bool) (x y:It):Bool:=bW (xi R hs x) (xi R hs y)
theorem xm (R:List Rg) (hs:Int → Int → Bool) (l:List It):fy R hs l = dc (M6 R hs) l:=by
 unfold fy
 rw [G1,List.map_map]
 exact List.map_id _
theorem sX (R:List Rg) (hs:Int → Int → Bool) (l:List It):(fy R hs l).length = l.length:=by rw [xm,iA]
section
variable {P:Program} {n t:Nat} {ops:Array Oper} {o:Oper} {S:St}
end
section
end
end Go.Proofs.YtembiemaiacdfaaGreat
