/- Texts joined: Od. -/
import Derived.Test.YtembiemaiacdfaaGreatJ22
import Derived.Test.YtembiemaiacdfaaGreatJ13
import Derived.Test.YtembiemaiacdfaaGreatJ24
import Derived.Test.YtembiemaiacdfaaGreatJ33
import Derived.Test.YtembiemaiacdfaaGreatJ23
import Derived.Test.YtembiemaiacdfaaGreatJ05
set_option maxRecDepth 10000
set_option maxHeartbeats 8000000
namespace Go.Proofs.YtembiemaiacdfaaGreat
open Go.RowKit
abbrev Snt:=It × Int
abbrev sntP (x:Snt):List PV:=itP x.1 ++ [rawP (.int .i64 x.2)]
abbrev sntC (x:Snt):Cnt:=.per (aggP (sntP x))
def cmpSn (x y:Snt):Int:=if x.1.prio > y.1.prio then -1 else if x.1.prio < y.1.prio then 1 else if x.2 ≠ y.2 then x.2 - y.2 else cmpB x.1.key y.1.key
def ltSn (x y:Snt):Bool:=decide (cmpSn x y < 0)
def sntOk (x:Snt):Prop:=x.1.key.size ≤ 1000000000 ∧ 0 ≤ x.2 ∧ x.2 ≤ 3
section
theorem cmp_snt (x y:Snt) (hx:sntOk x) (hy:sntOk y):FnM Tryz.prog 142 [sntC x,sntC y] [] (.per (rawP (.int .i64 (cmpSn x y)))) []:=by
 obtain ⟨⟨xk,xr,xc,xa,xp,xd,xb⟩,xs⟩:=x
 obtain ⟨⟨yk,yr,yc,ya,yp,yd,yb⟩,ys⟩:=y
 obtain ⟨hk,hx0,hx3⟩:=hx
 obtain ⟨-,hy0,hy3⟩:=hy
 simp only at hk hx0 hx3 hy0 hy3
 have h1:=key_Cmp xk yk (by omega)
 have hE:cmpSn (⟨xk,xr,xc,xa,xp,xd,xb⟩,xs) (⟨yk,yr,yc,ya,yp,yd,yb⟩,ys) = (if xp > yp then -1 else if xp < yp then 1 else if xs ≠ ys then xs - ys else cmpB xk yk):=rfl
 rw [hE]
 show FnM Tryz.prog _ [.per (aggP [rawP (.string xk),rawP (.int .i64 xr),rawP (.int .i64 xc),rawP (.int .i64 xa),rawP (.int .i64 xp),rawP (.bool xd),rawP (.string xb),rawP (.int .i64 xs)]),.per (aggP [rawP (.string yk),rawP (.int .i64 yr),rawP (.int .i64 yc),rawP (.int .i64 ya),rawP (.int .i64 yp),rawP (.bool yd),rawP (.string yb),rawP (.int .i64 ys)])] [] _ []
 refine fmi Tryz.func142 Tryz.ntmps142 ?_
 (have kc1:=h1;refine w0 ?_;(repeat' first|refine W2.mk ?_ ?_|refine W1.mk fun hc=>?_);all_goals clear kc1)
 · rw [if_pos (by assumption)]
   (refine ⟨(by first|exact .inl rfl|exact .inr rfl),resM1 [] rfl rfl .nil ?_⟩)
   exact rvm_int rfl rfl
 · rw [if_neg (by assumption),if_pos (by assumption)]
   (refine ⟨(by first|exact .inl rfl|exact .inr rfl),resM1 [] rfl rfl .nil ?_⟩)
   exact rvm_int rfl rfl
 · rw [if_neg (by assumption),if_neg (by assumption),if_pos (by assumption)]
   (refine ⟨(by first|exact .inl rfl|exact .inr rfl),resM1 [] rfl rfl .nil ?_⟩)
   exact rvm_int rfl rfl
 · rw [if_neg (by assumption),if_neg (by assumption),if_neg (by omega)]
   (refine ⟨(by first|exact .inl rfl|exact .inr rfl),resM1 [] rfl rfl .nil ?_⟩)
   exact rvm_int rfl rfl
end
abbrev cmpCS:Cnt:=.per (rawP (.func (.func 142) #[] #[]))
abbrev itsWS (l:List Snt):Blk:=.row 185 8 (l.map sntP)
/-- no key is too long -/
def kOkS (l:List Snt):Prop:=∀ x ∈ l,sntOk x
section
theorem sort_insS (A M Z:List Snt) (hk:kOkS M) (hl:(A ++ M ++ Z).length ≤ 1000000000):FnM Tryz.prog 213 [.row 1000 0,iC .i64 (A.length:Nat),iC .i64 ((A.length + M.length:Nat):Int),cmpCS] [(1000,itsWS (A ++ M ++ Z))] .any [(1000,itsWS (A ++ srtS ltSn M ++ Z))]:=by
 generalize hR:A ++ srtS ltSn M ++ Z = R
 generalize hb:A.length + M.length = b
 simp only [List.length_append] at hl
 refine fmi Tryz.func213 Tryz.ntmps213 ?_
 (refine w0 ?_;(repeat' first|refine W2.mk ?_ ?_|refine W1.mk fun hc=>?_))
 refine AW_loopP (X:=Nat × List Snt × List Snt) (fun x=>A.length < x.1 ∧ x.1 ≤ b + 1 ∧ A.length + x.2.1.length = min x.1 b ∧ A.length + x.2.1.length + x.2.2.length = b ∧ kOkS x.2.1 ∧ kOkS x.2.2 ∧ A ++ x.2.2.foldl (insT ltSn) x.2.1 ++ Z = R)
   (fun x=>mkSt [(0,.row 1000 0),(1,iC .i64 (A.length:Nat)),(2,iC .i64 (b:Nat)),(3,cmpCS),(8,iC .i64 (x.1:Nat))] [(1000,itsWS (A ++ x.2.1 ++ (x.2.2 ++ Z)))]) (fun x=>b + 1 - x.1) (A.length + 1,M.take 1,M.drop 1) ?_ ?_ ?_
 · refine ⟨by simp only;omega,by simp only;omega,by simp only [List.length_take];omega,by simp only [List.length_take,List.length_drop];omega,fun x h=>hk x (List.mem_of_mem_take h),fun x h=>hk x (List.mem_of_mem_drop h),?_⟩
   rw [← hR]
   cases M with
   | nil=>rfl
   | cons x M=>rfl
 · have e:A ++ M.take 1 ++ (M.drop 1 ++ Z) = A ++ M ++ Z:=by
     rw [List.append_assoc,← List.append_assoc (M.take 1),List.take_append_drop,List.append_assoc]
   rw [e]
   exact le_auto
 · rintro ⟨i,p,q⟩ ⟨h1,h2,h3,h4,hkp,hkq,h5⟩
   simp only at h1 h2 h3 h4 hkp hkq h5 ⊢
   by_cases hlt:i < b
   · obtain ⟨x,q,rfl⟩:∃ x q',q = x :: q':=by
       cases q with
       | nil=>simp at h4;omega
       | cons x q=>exact ⟨x,q,rfl⟩
     have hip:A.length + p.length = i:=by omega
     clear h3
     have hkx:=hkq x (by simp)
     simp only [List.length_cons,List.foldl_cons] at h4 h5
     (repeat' (first|refine AW_seq ?_|refine AW_block ?_|refine AW_skip ?_|refine AW_exit ?_|refine AW_ret ?_|refine AW_region ?_|refine AL_nil ?_|refine AD_nil (by kernel_rfl) ?_|(refine AW_cl rfl rfl ⟨fun hc=>?_,fun hc=>?_⟩ <;> (repeat rw [List.length_map] at hc) <;> (try exact absd hc))|((first|apply AL_t rfl|apply AL_0 rfl|apply AD_t rfl|apply AD_0 rfl);focus (first|exact z_auto|fail))|refine thenA_n ?_|refine thenA_r ?_|refine thenA_e ?_|refine inB_n ?_|refine inB_r ?_|refine inB_hit ?_|refine inB_miss rfl ?_|((first|refine AL_cl rfl rfl rfl ⟨fun hc=>?_,fun hc=>?_⟩|refine AD_cl rfl rfl rfl ⟨fun hc=>?_,fun hc=>?_⟩) <;> (fail_if_success (have q:(true = true):=hc)) <;> (fail_if_success (have q:(false = false):=hc)) <;> (repeat rw [List.length_map] at hc) <;> (try exact absd hc))|refine AW_cond_nil rfl rfl (fun hc=>?_) ?_))
     refine AW_loopP (X:=List Snt × List Snt) (fun y=>y.1.length + y.2.length = p.length ∧ kOkS y.1 ∧ kOkS y.2 ∧ insS ltSn x y.1.reverse y.2 = insT ltSn p x)
       (fun y=>mkSt [(0,.row 1000 0),(1,iC .i64 (A.length:Nat)),(2,iC .i64 (b:Nat)),(3,cmpCS),(8,iC .i64 (i:Nat)),(9,iC .i64 ((A.length + y.1.length:Nat):Int))] [(1000,itsWS (A ++ y.1 ++ x :: (y.2 ++ (q ++ Z))))]) (fun y=>y.1.length) (p,[]) ⟨by simp,hkp,fun x h=>by simp at h,rfl⟩ ?_ ?_
     · subst hip
       exact le_auto
     · rintro ⟨p1,p2⟩ ⟨g1,gk1,gk2,g2⟩
       simp only at g1 gk1 gk2 g2 ⊢
       have out:insT ltSn p x = p1 ++ x :: p2 → (∃ z:Nat × List Snt × List Snt,(A.length < z.1 ∧ z.1 ≤ b + 1 ∧ A.length + z.2.1.length = min z.1 b ∧ A.length + z.2.1.length + z.2.2.length = b ∧ kOkS z.2.1 ∧ kOkS z.2.2 ∧ A ++ z.2.2.foldl (insT ltSn) z.2.1 ++ Z = R) ∧ z = (i + 1,p1 ++ x :: p2,q)):=fun e=>by
         refine ⟨_,⟨by simp only;omega,by simp only;omega,by simp;omega,by simp;omega,fun y hy=>?_,fun y hy=>hkq y (by simp [hy]),by rw [← e];exact h5⟩,rfl⟩
         rcases List.mem_append.1 hy with h|h
         · exact gk1 y h
         · rcases List.mem_cons.1 h with h|h
           · subst h;exact hkx
           · exact gk2 y h
       have hL0:A ++ p1 ++ x :: (p2 ++ (q ++ Z)) = A ++ (p1 ++ x :: p2) ++ (q ++ Z):=by simp
       rcases snoc_cases p1 with rfl|⟨p1',y,rfl⟩
       · have e:insT ltSn p x = [] ++ x :: p2:=by rw [← g2];rfl
         obtain ⟨z,hz,rfl⟩:=out e
         rw [hL0]
         (refine w0 ?_;(repeat' first|refine W2.mk ?_ ?_|refine W1.mk fun hc=>?_))
         refine ⟨_,hz,by simp only;omega,?_⟩
         exact le_auto
       · obtain ⟨j,hj⟩:∃ j,A.length + p1'.length = j:=⟨_,rfl⟩
         have hj1:A.length + (p1' ++ [y]).length = j + 1:=by simp;omega
         have hky:=gk1 y (by simp)
         have hm:=cmp_snt x y hkx hky
         generalize hL:A ++ (p1' ++ [y]) ++ x :: (p2 ++ (q ++ Z)) = L at *
         have hlen:j + 1 < L.length:=by rw [← hL];simp;omega
         have HJ:(L.map sntP)[j + 1]? = some (sntP x):=by
           rw [List.getElem?_map,← hL,List.getElem?_append_right (by simp;omega),List.length_append,hj1,Nat.sub_self];rfl
         have HJ1:(L.map sntP)[j]? = some (sntP y):=by
           rw [List.getElem?_map,← hL,List.append_assoc,List.append_assoc,List.getElem?_append_right (by omega),List.getElem?_append_right (by omega)]
           rw [show j - A.length - p1'.length = 0 by omega];rfl
         rw [hj1]
         have hrev:(p1' ++ [y]).reverse = y :: p1'.reverse:=by simp
         rw [hrev,insS] at g2
         have HS1:(L.map sntP).set (j + 1) (setP (sntP x) 0 (sntP y)) = (L.set (j + 1) y).map sntP:=by rw [← map_set'];rfl
         have HJ2:((L.set (j + 1) y).map sntP)[j]? = some (sntP y):=by
           rw [← map_set',List.getElem?_set_ne (by omega)];exact HJ1
         have HS2:((L.set (j + 1) y).map sntP).set j (setP (sntP y) 0 (sntP x)) = (A ++ p1' ++ x :: ((y :: p2) ++ (q ++ Z))).map sntP:=by
           rw [map_set' sntP (L.set (j + 1) y) j x |>.symm.trans rfl |> fun h=>(show ((L.set (j + 1) y).map sntP).set j (setP (sntP y) 0 (sntP x)) = ((L.set (j + 1) y).set j x).map sntP from map_set' sntP _ j x)]
           rw [← hL,set_at (A ++ (p1' ++ [y])) x y _ (j + 1) (by simp;omega),show A ++ (p1' ++ [y]) ++ y :: (p2 ++ (q ++ Z)) = (A ++ p1') ++ y :: (y :: (p2 ++ (q ++ Z))) by simp,set_at (A ++ p1') y x _ j (by simp;omega)]
           simp
         by_cases hxy:cmpSn x y < 0
         · rw [if_pos (show ltSn x y = true from decide_eq_true hxy)] at g2
           clear out
           (refine w0 ?_;(repeat' (first|refine W2.mk ?_ ?_|refine W1.mk fun hc=>?_|((first|apply AL_t rfl|apply AL_0 rfl|apply AD_t rfl|apply AD_0 rfl);(focus (first|((apply u_k 5;(focus rfl);first|exact u_load_rA ⟨rfl,rfl,rfl⟩ rfl inferInstance inferInstance rfl rfl rfl HJ rfl rfl rfl|exact u_load_rA ⟨rfl,rfl,rfl⟩ rfl inferInstance inferInstance rfl rfl rfl HJ1 rfl rfl rfl))|((apply u_k 6;(focus rfl);first|exact u_store_r ⟨rfl,rfl⟩ rfl inferInstance rfl rfl rfl rfl HJ rfl (.inl rfl) rfl HS1|exact u_store_r ⟨rfl,rfl⟩ rfl inferInstance rfl rfl rfl rfl HJ2 rfl (.inl rfl) rfl HS2))|(exact c_V [] hm)|(apply u_g;(focus rfl);apply op_gyes rfl rfl rfl rfl rfl;first|((apply u_k 5;(focus rfl);first|exact u_load_rA ⟨rfl,rfl,rfl⟩ rfl inferInstance inferInstance rfl rfl rfl HJ rfl rfl rfl|exact u_load_rA ⟨rfl,rfl,rfl⟩ rfl inferInstance inferInstance rfl rfl rfl HJ1 rfl rfl rfl))|((apply u_k 6;(focus rfl);first|exact u_store_r ⟨rfl,rfl⟩ rfl inferInstance rfl rfl rfl rfl HJ rfl (.inl rfl) rfl HS1|exact u_store_r ⟨rfl,rfl⟩ rfl inferInstance rfl rfl rfl rfl HJ2 rfl (.inl rfl) rfl HS2))|(exact c_V [] hm))));refine w0 ?_))))
           refine ⟨(p1',y :: p2),⟨by simp at g1 ⊢;omega,fun z h=>gk1 z (by simp [h]),fun z h=>?_,g2⟩,by simp,?_⟩
           · rcases List.mem_cons.1 h with h|h
             · subst h;exact hky
             · exact gk2 z h
           · simp only [hj]
             exact le_auto
         · rw [if_neg (show ¬ ltSn x y = true by unfold ltSn;rw [decide_eq_true_iff];exact hxy)] at g2
           have e:insT ltSn p x = (p1' ++ [y]) ++ x :: p2:=by rw [← g2];simp
           obtain ⟨z,hz,rfl⟩:=out e
           (refine w0 ?_;(repeat' (first|refine W2.mk ?_ ?_|refine W1.mk fun hc=>?_|((first|apply AL_t rfl|apply AL_0 rfl|apply AD_t rfl|apply AD_0 rfl);(focus (first|((apply u_k 5;(focus rfl);first|exact u_load_rA ⟨rfl,rfl,rfl⟩ rfl inferInstance inferInstance rfl rfl rfl HJ rfl rfl rfl|exact u_load_rA ⟨rfl,rfl,rfl⟩ rfl inferInstance inferInstance rfl rfl rfl HJ1 rfl rfl rfl))|(exact c_V [] hm)|(apply u_g;(focus rfl);apply op_gyes rfl rfl rfl rfl rfl;first|((apply u_k 5;(focus rfl);first|exact u_load_rA ⟨rfl,rfl,rfl⟩ rfl inferInstance inferInstance rfl rfl rfl HJ rfl rfl rfl|exact u_load_rA ⟨rfl,rfl,rfl⟩ rfl inferInstance inferInstance rfl rfl rfl HJ1 rfl rfl rfl))|(exact c_V [] hm))));refine w0 ?_))))
           refine ⟨_,hz,by simp only;omega,?_⟩
           simp only
           rw [← hL0]
           exact le_auto
   · have hq:q = []:=List.eq_nil_of_length_eq_zero (by omega)
     subst hq
     simp only [List.foldl_nil] at h5
     (refine w0 ?_;(repeat' first|refine W2.mk ?_ ?_|refine W1.mk fun hc=>?_))
     rw [List.nil_append,h5]
     (refine ⟨(by first|exact .inl rfl|exact .inr rfl),resM0 [(1000,1000)] rfl rfl ?_⟩;(focus (repeat (first|exact AllX.nil|(refine AllX.cons rfl ?_ ?_;(focus first|rfl|skip))))))
end

section
theorem stableS (M:List Snt) (hk:kOkS M) (hl:M.length ≤ 20):FnM Tryz.prog 187 [.row 1000 0,iC .i64 (M.length:Nat),cmpCS] [(1000,itsWS M)] .any [(1000,itsWS (srtS ltSn M))]:=by
 have h:=sort_insS [] M [] hk (by simp;omega)
 have hRl:(srtS ltSn M).length = M.length:=srtS_len M
 have h2:=sort_insS (srtS ltSn M) [] [] (fun x hx=>by simp at hx) (by simp [hRl];omega)
 simp only [List.nil_append,List.append_nil,List.length_nil,Nat.zero_add,Nat.add_zero,srtS,List.foldl_nil] at h h2
 rw [show List.foldl (insT ltSn) [] M = srtS ltSn M from rfl] at h h2
 rw [hRl] at h2
 generalize srtS ltSn M = R at *
 by_cases h20:M.length = 20
 · rw [h20] at h h2 ⊢
   refine fmi Tryz.func187 Tryz.ntmps187 ?_
   (refine w0 ?_;(repeat' first|refine W2.mk ?_ ?_|refine W1.mk fun hc=>?_))
   refine AW_loopP (X:=Bool) (fun _=>True) (fun b=>mkSt [(0,.row 1000 0),(1,iC .i64 (20:Nat)),(2,cmpCS),(6,iC .i64 20),(7,iC .i64 (if b then 20 else 0)),(8,iC .i64 (if b then 40 else 20))] [(1000,itsWS (if b then R else M))]) (fun b=>if b then 0 else 1) false trivial ?_ ?_
   · exact le_auto
   · rintro b -
     cases b with
     | false=>
       simp only [Bool.false_eq_true,if_false]
       (have km1:=(show FnMs [(1000,1000)] _ _ _ _ _ _ from h);refine w0 ?_;(repeat' first|refine W2.mk ?_ ?_|refine W1.mk fun hc=>?_);all_goals clear km1)
       refine ⟨true,trivial,by simp,?_⟩
       exact le_auto
     | true=>
       simp only [if_true]
       (have km1:=(show FnMs [(1000,1000)] _ _ _ _ _ _ from h2);refine w0 ?_;(repeat' first|refine W2.mk ?_ ?_|refine W1.mk fun hc=>?_);all_goals clear km1)
       refine AW_loopP (X:=Unit) (fun _=>True) (fun _=>mkSt [(1,iC .i64 (20:Nat)),(6,iC .i64 20)] [(1000,itsWS R)]) (fun _=>0) () trivial ?_ ?_
       · exact le_auto
       · rintro _ -
         (refine w0 ?_;(repeat' first|refine W2.mk ?_ ?_|refine W1.mk fun hc=>?_))
         (refine ⟨(by first|exact .inl rfl|exact .inr rfl),resM0 [(1000,1000)] rfl rfl ?_⟩;(focus (repeat (first|exact AllX.nil|(refine AllX.cons rfl ?_ ?_;(focus first|rfl|skip))))))
 · refine fmi Tryz.func187 Tryz.ntmps187 ?_
   (have km1:=(show FnMs [(1000,1000)] _ _ _ _ _ _ from h);refine w0 ?_;(repeat' first|refine W2.mk ?_ ?_|refine W1.mk fun hc=>?_);all_goals clear km1)
   refine AW_loopP (X:=Unit) (fun _=>True) (fun _=>mkSt [(0,.row 1000 0),(1,iC .i64 (M.length:Nat)),(2,cmpCS),(6,iC .i64 20),(7,iC .i64 0),(8,iC .i64 20)] [(1000,itsWS M)]) (fun _=>0) () trivial ?_ ?_
   · exact le_auto
   · rintro _ -
     (have km1:=(show FnMs [(1000,1000)] _ _ _ _ _ _ from h);refine w0 ?_;(repeat' first|refine W2.mk ?_ ?_|refine W1.mk fun hc=>?_);all_goals clear km1)
     refine AW_loopP (X:=Unit) (fun _=>True) (fun _=>mkSt [(1,iC .i64 (M.length:Nat)),(6,iC .i64 20)] [(1000,itsWS R)]) (fun _=>0) () trivial ?_ ?_
     · exact le_auto
     · rintro _ -
       (refine w0 ?_;(repeat' first|refine W2.mk ?_ ?_|refine W1.mk fun hc=>?_))
       (refine ⟨(by first|exact .inl rfl|exact .inr rfl),resM0 [(1000,1000)] rfl rfl ?_⟩;(focus (repeat (first|exact AllX.nil|(refine AllX.cons rfl ?_ ?_;(focus first|rfl|skip))))))
theorem sort_stableS (M:List Snt) (hk:kOkS M) (hl:M.length ≤ 20):FnM Tryz.prog 141 [.row 1000 0,cmpCS] [(1000,itsWS M)] .any [(1000,itsWS (srtS ltSn M))]:=by
 have h:=stableS M hk hl
 generalize srtS ltSn M = R at *
 refine fmi Tryz.func141 Tryz.ntmps141 ?_
 (have km1:=(show FnMs [(1000,1000)] _ _ _ _ _ _ from h);refine w0 ?_;(repeat' first|refine W2.mk ?_ ?_|refine W1.mk fun hc=>?_);all_goals clear km1)
 (refine ⟨(by first|exact .inl rfl|exact .inr rfl),resM0 [(1000,1000)] rfl rfl ?_⟩;(focus (repeat (first|exact AllX.nil|(refine AllX.cons rfl ?_ ?_;(focus first|rfl|skip))))))
end
end Go.Proofs.YtembiemaiacdfaaGreat
namespace Go.Proofs.YtembiemaiacdfaaGreat
open Go.RowKit
/-- how early an item goes -/
def clsOf (R:List Rg) (hs:Int → Int → Bool) (x:It):Int:=(if anyR R x.key then 0 else 2) + (if hs x.rep x.cnt then 1 else 0)
theorem clsOf_rng (R:List Rg) (hs:Int → Int → Bool) (x:It):0 ≤ clsOf R hs x ∧ clsOf R hs x ≤ 3:=by
 unfold clsOf;split <;> split <;> omega
def snt (R:List Rg) (hs:Int → Int → Bool) (x:It):Snt:=(x,clsOf R hs x)
def sortO (R:List Rg) (hs:Int → Int → Bool) (l:List It):List It:=(srtS ltSn (l.map (snt R hs))).map Prod.fst
theorem snt_ok {R:List Rg} {hs:Int → Int → Bool} {l:List It} (hk:kOk l):kOkS (l.map (snt R hs)):=fun x hx=>by
 obtain ⟨y,hy,rfl⟩:=List.mem_map.1 hx
 have:=clsOf_rng R hs y
 exact ⟨hk y hy,this.1,this.2⟩
section
theorem od_Class (R R':List Rg) (hR:R'.length ≤ 12) (hA:∀ s,anyR R' s = anyR R s) (th:PV) (hs:Int → Int → Bool) (x:It) (hk:x.key.size ≤ 1000000000)
   (hH:Fn Tryz.prog 186 [.per th,vrC x.rep x.cnt] (boR (hs x.rep x.cnt))):Fn Tryz.prog 140 [.per (rgsP R'),.per th,itC x] (inR (clsOf R hs x)):=by
 have h1:=rgs_Has R' x.key hR hk
 rw [hA] at h1
 unfold clsOf
 generalize anyR R x.key = a at *
 generalize hs x.rep x.cnt = c at *
 cases a <;> cases c
 all_goals
   refine fi Tryz.func140 Tryz.ntmps140 ?_
   (have kc1:=h1;have kc2:=hH;refine w0 ?_;(repeat' first|refine W2.mk ?_ ?_|refine W1.mk fun hc=>?_);all_goals clear kc2 kc1)
   refine rt1 ?_
   exact rv_int rfl (by simp)
theorem od_Sort (R:List Rg) (hR:R.length ≤ 12) (th:PV) (hs:Int → Int → Bool) (hH:∀ r c,Fn Tryz.prog 186 [.per th,vrC r c] (boR (hs r c))) (l:List It) (hk:kOk l) (hl:l.length ≤ 20) :
   Fn Tryz.prog 90 [rgsB R,.per th,itsB l] (ownI (sortO R hs l)):=by
 have h1:=(rgs_Of R (by have:=List.length_filter_le rgR R;omega) (by omega)).frz
 have hA:=(rgOf_spec R).2
 have hRl:(rgOf R).length ≤ 12:=by have:=rgOf_len R;omega
 have h2:∀ x ∈ l,Fn Tryz.prog 140 [.per (rgsP (rgOf R)),.per th,itC x] (inR (clsOf R hs x)):=fun x hx=>od_Class R (rgOf R) hRl hA th hs x (hk x hx) (hH _ _)
 have h3:=sort_stableS (l.map (snt R hs)) (snt_ok hk) (by simpa using hl)
 have hQl:(srtS ltSn (l.map (snt R hs))).length = l.length:=by rw [srtS_len,List.length_map]
 unfold sortO
 generalize rgOf R = R' at *
 generalize srtS ltSn (l.map (snt R hs)) = Q at *
 clear hH hA hRl hR
 refine fi Tryz.func90 Tryz.ntmps90 ?_
 (have kc1:=h1;refine w0 ?_;(repeat' first|refine W2.mk ?_ ?_|refine W1.mk fun hc=>?_);all_goals clear kc1)
 refine AW_le (Le_nil 7 600 185 8 rfl rfl) ?_
 refine AW_loopP (X:=Nat) (fun k=>k ≤ l.length)
   (fun k=>mkSt [(0,.per (rgsP R')),(1,.per th),(7,.row 600 0),(15,itsB l),(16,iC .i64 (l.length:Nat)),(17,iC .i64 (k:Nat))] [(600,itsWS ((l.take k).map (snt R hs)))]) (fun k=>l.length - k) 0 (Nat.zero_le _) ?_ ?_
 · exact le_auto
 · rintro k g1
   by_cases hlt:k < l.length
   · have h4:=h2 l[k] (List.getElem_mem hlt)
     have ht:((l.take (k + 1)).map (snt R hs)).map sntP = ((l.take k).map (snt R hs)).map sntP ++ [sntP (snt R hs l[k])]:=by
       rw [List.take_succ_eq_append_getElem hlt,List.map_append,List.map_append];rfl
     have htl:((l.take k).map (snt R hs)).length ≤ 20:=by rw [List.length_map,List.length_take];omega
     generalize (l.take k).map (snt R hs) = A at *
     generalize hB:(l.take (k + 1)).map (snt R hs) = B at *
     clear h1 h2 h3
     (have kc1:=h4;refine w0 ?_;(repeat' first|refine W2.mk ?_ ?_|refine W1.mk fun hc=>?_);all_goals clear kc1)
     refine ⟨k + 1,by omega,by omega,Le_trans (Le_mv 600 601) (Le_trans (Le_mv 601 600) ?_)⟩
     show Le _ _ (mkSt _ [(600,itsWS ((l.take (k + 1)).map (snt R hs)))])
     rw [hB]
     unfold itsWS
     rw [ht]
     exact le_auto
   · obtain rfl:k = l.length:=by omega
     rw [List.take_length]
     clear h1 h2
     (have km1:=(show FnMs [(1000,600)] _ _ _ _ _ _ from h3);refine w0 ?_;(repeat' first|refine W2.mk ?_ ?_|refine W1.mk fun hc=>?_);all_goals clear km1)
     refine AW_le (Le_nil 10 700 61 7 rfl rfl) ?_
     refine AW_loopP (X:=Nat) (fun k=>k ≤ Q.length)
       (fun k=>mkSt [(10,.row 700 0),(33,.row 600 0),(34,iC .i64 (Q.length:Nat)),(35,iC .i64 (k:Nat))] [(600,itsWS Q),(700,itsW ((Q.take k).map Prod.fst))]) (fun k=>Q.length - k) 0 (Nat.zero_le _) ?_ ?_
     · exact le_auto
     · rintro k g1
       by_cases hlt:k < Q.length
       · have ht:((Q.take (k + 1)).map Prod.fst).map itP = ((Q.take k).map Prod.fst).map itP ++ [itP Q[k].1]:=by
           rw [List.take_succ_eq_append_getElem hlt,List.map_append,List.map_append];rfl
         have htl:((Q.take k).map Prod.fst).length ≤ 20:=by rw [List.length_map,List.length_take];omega
         have HQ:(Q.map sntP)[k]? = some (sntP Q[k]):=by rw [List.getElem?_map,List.getElem?_eq_getElem hlt];rfl
         generalize (Q.take k).map Prod.fst = A at *
         generalize hB:(Q.take (k + 1)).map Prod.fst = B at *
         generalize Q[k] = q at *
         clear h3
         (refine w0 ?_;(repeat' (first|refine W2.mk ?_ ?_|refine W1.mk fun hc=>?_|((first|apply AL_t rfl|apply AL_0 rfl|apply AD_t rfl|apply AD_0 rfl);(focus (first|((apply u_k 5;(focus rfl);exact u_load_rA ⟨rfl,rfl,rfl⟩ rfl inferInstance inferInstance rfl rfl rfl HQ rfl rfl rfl))|(apply u_g;(focus rfl);apply op_gyes rfl rfl rfl rfl rfl;first|((apply u_k 5;(focus rfl);exact u_load_rA ⟨rfl,rfl,rfl⟩ rfl inferInstance inferInstance rfl rfl rfl HQ rfl rfl rfl)))));refine w0 ?_))))
         refine ⟨k + 1,by omega,by omega,Le_trans (Le_mv 700 701) (Le_trans (Le_mv 701 700) ?_)⟩
         show Le _ _ (mkSt _ [_,(700,itsW ((Q.take (k + 1)).map Prod.fst))])
         rw [hB]
         unfold itsW
         rw [ht]
         exact le_auto
       · obtain rfl:k = Q.length:=by omega
         rw [List.take_length]
         clear h3
         (refine w0 ?_;(repeat' first|refine W2.mk ?_ ?_|refine W1.mk fun hc=>?_))
         refine rt1 ?_
         exact rv_ownM rfl rfl rfl rfl
end
end Go.Proofs.YtembiemaiacdfaaGreat
namespace Go.Proofs.YtembiemaiacdfaaGreat
open Go.RowKit
theorem insS_map {α β:Type} {lt:β → β → Bool} {f:α → β} (x:α):∀ (l r:List α),insS lt (f x) (l.map f) (r.map f) = (insS (fun x y=>lt (f x) (f y)) x l r).map f
 | [],r=>by simp [insS]
 | y :: l,r=>by
   have ih:=insS_map (lt:=lt) (f:=f) x l (y :: r)
   rw [List.map_cons] at ih
   rw [List.map_cons,insS,insS]
   split
   · exact ih
   · simp
theorem srtS_map {α β:Type} {lt:β → β → Bool} {f:α → β} (l:List α):srtS lt (l.map f) = (srtS (fun x y=>lt (f x) (f y)) l).map f:=by
 unfold srtS
 have:∀ (l p:List α),List.foldl (insT lt) (p.map f) (l.map f) = (List.foldl (insT fun x y=>lt (f x) (f y)) p l).map f:=by
   intro l
   induction l with
   | nil=>intro p;rfl
   | cons x l ih=>
     intro p
     rw [List.map_cons,List.foldl_cons,List.foldl_cons,← ih]
     congr 1
     unfold insT
     rw [← List.map_reverse]
     exact insS_map x _ []
 exact this l []
abbrev ltI (R:List Rg) (hs:Int → Int → Bool) (x y:It):Bool:=ltSn (snt R hs x) (snt R hs y)
theorem sortO_eq (R:List Rg) (hs:Int → Int → Bool) (l:List It):sortO R hs l = srtS (ltI R hs) l:=by
 unfold sortO
 rw [srtS_map,List.map_map]
 exact List.map_id _
theorem sortO_len (R:List Rg) (hs:Int → Int → Bool) (l:List It):(sortO R hs l).length = l.length:=by rw [sortO_eq,srtS_len]
section
variable {P:Program} {n t:Nat} {ops:Array Oper} {o:Oper} {S:St}
end
section
end
end Go.Proofs.YtembiemaiacdfaaGreat
