/- Texts joined: Law16 Kk DeP Sort Merge. -/
import Derived.Test.YtembiemaiacdfaaGreatJ13
import Derived.Test.YtembiemaiacdfaaGreatJ08
import Derived.Test.YtembiemaiacdfaaGreatJ05
import Derived.Test.YtembiemaiacdfaaGreatJ19
import Derived.Test.YtembiemaiacdfaaGreatJ09
set_option maxRecDepth 10000
set_option maxHeartbeats 8000000
namespace Go.Proofs.YtembiemaiacdfaaGreat
open Go.RowKit
section
end
section
end
end Go.Proofs.YtembiemaiacdfaaGreat
namespace Go.Proofs.YtembiemaiacdfaaGreat
theorem mc (s:List Kn) {r:Nat} (hr:r < 16):aQ (fa ofR s) r = ofR (aQ s r):=by
 have h:=l8 s
 have h1:=bQ (fa ofR s) hr
 rw [h,List.getElem?_map,bQ _ hr] at h1
 exact (Option.some.inj h1).symm
theorem oc (a b:List Kn) (r:Nat):aQ (a ++ b) r = aQ a r ++ aQ b r:=by unfold aQ;rw [List.flatMap_append]
theorem ym (a b:List Pc) (s:ByteArray):kO (a ++ b) s = fa ofR (kO a s ++ kO b s):=by
 rw [← Io]
 have:=vP (kO a s) (kO b s)
 rw [mX (nY a s),mX (nY b s)] at this
 exact this
section
variable {P:Program} {n:Nat} {ops:Array Oper} {o:Oper} {S:St}
theorem nv {f:FuncId} {x0:Operand} {xs:List Operand} {As:List Cnt} {pre post:List (Nat × Blk)} {r:Cnt} (sg:List (Nat × Nat)) (hf:dY P f As pre r post) (hp:AI n o:=by exact ⟨rfl,rfl⟩) (ho:gP o x0 xs:=by exact ⟨_,rfl⟩) (hx:S.opd x0 = .per (ao (.func (.func f) #[] #[])):=by rfl) (hok:C5 sg = true:=by rfl)
   (hg:ov S sg xs As:=by first|((repeat (first|exact ov.nil|(refine ov.cons ?_ ?_;focus (first|exact lQ rfl|exact lR rfl|exact lU rfl rfl rfl rfl|exact lS rfl|exact lV rfl|exact jV rfl|exact kF rfl rfl))));done)|fail) (hpre:kj S sg pre:=by first|((repeat (first|exact kj.nil|(refine kj.cons rfl rfl ?_)));done)|fail):ak n P ops o (ap x0 ++ (dR S xs ++ s8 sg)) (r.mp false (iB sg) z0 (ra S.ver sg)) (kA S post sg sg) S:=
 jl (cs:=[]) sg hp ho (vc hx (fun k h=>by simp [h])) (by simpa using hf) hok (fun p h=>by simp [pL p h]) (hg.gives (fun _ h=>by simp at h ⊢;exact .inr (.inl h)) (fun _ h=>by simp [h])) hpre
end
def tJ (x:It):List It → List It → List It
 | [],r=>x :: r
 | y :: l,r=>if bO x.key y.key < 0 then tJ x l (y :: r) else (y :: l).reverse ++ x :: r
def rz (p:List It) (x:It):List It:=tJ x p.reverse []
def dK (l:List It):List It:=l.foldl rz []
theorem ES (x:It):∀ (l r:List It),(tJ x l r).length = l.length + 1 + r.length:=by
 intro l
 induction l with
 | nil=>intro r;simp [tJ];omega
 | cons y l ih=>
   intro r
   unfold tJ
   split
   · rw [ih];simp;omega
   · simp;omega
abbrev kQ:Cnt:=.per (ao (.func (.func 127) #[] #[]))
abbrev dW (l:List It):Blk:=.row 61 7 (l.map itP)
def mo (l:List It):Prop:=∀ x ∈ l,x.key.size ≤ 1000000000
theorem dA {α:Type} (A:List α) (x y:α) (T:List α) (j:Nat) (hj:j = A.length):(A ++ x :: T).set j y = A ++ y :: T:=by
 subst hj;simp
theorem dQ {α:Type} (l:List α):l = [] ∨ ∃ (l':List α) (y:α),l = l' ++ [y]:=by
 rcases List.eq_nil_or_concat l with h|⟨a,y,h⟩
 · exact .inl h
 · exact .inr ⟨a,y,by rw [h];simp⟩
theorem bj {α β:Type} (f:α → β) (l:List α) (j:Nat) (y:α):(l.map f).set j (f y) = (l.set j y).map f:=by rw [List.map_set]
section
theorem m5 (x y:It) (hx:x.key.size ≤ 1000000000):dY Tryz.prog 127 [oP x,oP y] [] (.per (ao (.int .i64 (bO x.key y.key)))) []:=by
 have h1:=eD x.key y.key (by omega)
 refine eT Tryz.func127 Tryz.ntmps127 ?_
 (have kc1:=h1;refine w0 ?_;(repeat' first|refine W2.mk ?_ ?_|refine W1.mk fun hc=>?_);all_goals clear kc1)
 refine ⟨(by first|exact .inl rfl|exact .inr rfl),bS [] rfl rfl .nil ?_⟩
 exact aY rfl rfl
theorem vZ (A M Z:List It) (hk:mo M) (hl:(A ++ M ++ Z).length ≤ 1000000000):dY Tryz.prog 202 [.row 1000 0,iC .i64 (A.length:Nat),iC .i64 ((A.length + M.length:Nat):Int),kQ] [(1000,dW (A ++ M ++ Z))] .any [(1000,dW (A ++ dK M ++ Z))]:=by
 generalize hR:A ++ dK M ++ Z = R
 generalize hb:A.length + M.length = b
 simp only [List.length_append] at hl
 refine eT Tryz.func202 Tryz.ntmps202 ?_
 (refine w0 ?_;(repeat' first|refine W2.mk ?_ ?_|refine W1.mk fun hc=>?_))
 refine ah (X:=Nat × List It × List It) (fun x=>A.length < x.1 ∧ x.1 ≤ b + 1 ∧ A.length + x.2.1.length = min x.1 b ∧ A.length + x.2.1.length + x.2.2.length = b ∧ mo x.2.1 ∧ mo x.2.2 ∧ A ++ x.2.2.foldl rz x.2.1 ++ Z = R)
   (fun x=>aJ [(0,.row 1000 0),(1,iC .i64 (A.length:Nat)),(2,iC .i64 (b:Nat)),(3,kQ),(8,iC .i64 (x.1:Nat))] [(1000,dW (A ++ x.2.1 ++ (x.2.2 ++ Z)))]) (fun x=>b + 1 - x.1) (A.length + 1,M.take 1,M.drop 1) ?_ ?_ ?_
 · refine ⟨by simp only;omega,by simp only;omega,by simp only [List.length_take];omega,by simp only [List.length_take,List.length_drop];omega,fun x h=>hk x (List.mem_of_mem_take h),fun x h=>hk x (List.mem_of_mem_drop h),?_⟩
   rw [← hR]
   cases M with
   | nil=>rfl
   | cons x M=>rfl
 · have e:A ++ M.take 1 ++ (M.drop 1 ++ Z) = A ++ M ++ Z:=by
     rw [List.append_assoc,← List.append_assoc (M.take 1),List.take_append_drop,List.append_assoc]
   rw [e]
   exact ab
 · rintro ⟨i,p,q⟩ ⟨h1,h2,h3,h4,hkp,hkq,h5⟩
   simp only at h1 h2 h3 h4 hkp hkq h5 ⊢
   by_cases hlt:i < b
   · obtain ⟨x,q,rfl⟩:∃ x q',q = x :: q':=by
       cases q with
       | nil=>simp at h4;omega
       | cons x q=>exact ⟨x,q,rfl⟩
     have hip:A.length + p.length = i:=by omega
     clear h3
     have hkx:=hkq x (by simp)
     simp only [List.length_cons,List.foldl_cons] at h4 h5
     (repeat' (first|refine cl ?_|refine bh ?_|refine bx ?_|refine bz ?_|refine cm ?_|refine aW ?_|refine cj ?_|refine ck (by kernel_rfl) ?_|(refine eU rfl rfl ⟨fun hc=>?_,fun hc=>?_⟩ <;> (repeat rw [List.length_map] at hc) <;> (try exact cP hc))|((first|apply aB rfl|apply aC rfl|apply aD rfl|apply aF rfl);focus (first|exact dn|fail))|refine bB ?_|refine bD ?_|refine bF ?_|refine dv ?_|refine dw ?_|refine bG ?_|refine bi rfl ?_|((first|refine eV rfl rfl rfl ⟨fun hc=>?_,fun hc=>?_⟩|refine eW rfl rfl rfl ⟨fun hc=>?_,fun hc=>?_⟩) <;> (fail_if_success (have q:(true = true):=hc)) <;> (fail_if_success (have q:(false = false):=hc)) <;> (repeat rw [List.length_map] at hc) <;> (try exact cP hc))|refine aZ rfl rfl (fun hc=>?_) ?_))
     refine ah (X:=List It × List It) (fun y=>y.1.length + y.2.length = p.length ∧ mo y.1 ∧ mo y.2 ∧ tJ x y.1.reverse y.2 = rz p x)
       (fun y=>aJ [(0,.row 1000 0),(1,iC .i64 (A.length:Nat)),(2,iC .i64 (b:Nat)),(3,kQ),(8,iC .i64 (i:Nat)),(9,iC .i64 ((A.length + y.1.length:Nat):Int))] [(1000,dW (A ++ y.1 ++ x :: (y.2 ++ (q ++ Z))))]) (fun y=>y.1.length) (p,[]) ⟨by simp,hkp,fun x h=>by simp at h,rfl⟩ ?_ ?_
     · subst hip
       exact ab
     · rintro ⟨p1,p2⟩ ⟨g1,gk1,gk2,g2⟩
       simp only at g1 gk1 gk2 g2 ⊢
       have out:rz p x = p1 ++ x :: p2 → (∃ z:Nat × List It × List It,(A.length < z.1 ∧ z.1 ≤ b + 1 ∧ A.length + z.2.1.length = min z.1 b ∧ A.length + z.2.1.length + z.2.2.length = b ∧ mo z.2.1 ∧ mo z.2.2 ∧ A ++ z.2.2.foldl rz z.2.1 ++ Z = R) ∧ z = (i + 1,p1 ++ x :: p2,q)):=fun e=>by
         refine ⟨_,⟨by simp only;omega,by simp only;omega,by simp;omega,by simp;omega,fun y hy=>?_,fun y hy=>hkq y (by simp [hy]),by rw [← e];exact h5⟩,rfl⟩
         rcases List.mem_append.1 hy with h|h
         · exact gk1 y h
         · rcases List.mem_cons.1 h with h|h
           · subst h;exact hkx
           · exact gk2 y h
       have hL0:A ++ p1 ++ x :: (p2 ++ (q ++ Z)) = A ++ (p1 ++ x :: p2) ++ (q ++ Z):=by simp
       rcases dQ p1 with rfl|⟨p1',y,rfl⟩
       · have e:rz p x = [] ++ x :: p2:=by rw [← g2];rfl
         obtain ⟨z,hz,rfl⟩:=out e
         rw [hL0]
         (refine w0 ?_;(repeat' first|refine W2.mk ?_ ?_|refine W1.mk fun hc=>?_))
         refine ⟨_,hz,by simp only;omega,?_⟩
         exact ab
       · obtain ⟨j,hj⟩:∃ j,A.length + p1'.length = j:=⟨_,rfl⟩
         have hj1:A.length + (p1' ++ [y]).length = j + 1:=by simp;omega
         have hky:=gk1 y (by simp)
         have hm:=m5 x y hkx
         generalize hL:A ++ (p1' ++ [y]) ++ x :: (p2 ++ (q ++ Z)) = L at *
         have hlen:j + 1 < L.length:=by rw [← hL];simp;omega
         have HJ:(L.map itP)[j + 1]? = some (itP x):=by
           rw [List.getElem?_map,← hL,List.getElem?_append_right (by simp;omega),List.length_append,hj1,Nat.sub_self];rfl
         have HJ1:(L.map itP)[j]? = some (itP y):=by
           rw [List.getElem?_map,← hL,List.append_assoc,List.append_assoc,List.getElem?_append_right (by omega),List.getElem?_append_right (by omega)]
           rw [show j - A.length - p1'.length = 0 by omega];rfl
         rw [hj1]
         have hrev:(p1' ++ [y]).reverse = y :: p1'.reverse:=by simp
         rw [hrev,tJ] at g2
         have HS1:(L.map itP).set (j + 1) (bL (itP x) 0 (itP y)) = (L.set (j + 1) y).map itP:=by rw [← bj];rfl
         have HJ2:((L.set (j + 1) y).map itP)[j]? = some (itP y):=by
           rw [← bj,List.getElem?_set_ne (by omega)];exact HJ1
         have HS2:((L.set (j + 1) y).map itP).set j (bL (itP y) 0 (itP x)) = (A ++ p1' ++ x :: ((y :: p2) ++ (q ++ Z))).map itP:=by
           rw [bj itP (L.set (j + 1) y) j x |>.symm.trans rfl |> fun h=>(show ((L.set (j + 1) y).map itP).set j (bL (itP y) 0 (itP x)) = ((L.set (j + 1) y).set j x).map itP from bj itP _ j x)]
           rw [← hL,dA (A ++ (p1' ++ [y])) x y _ (j + 1) (by simp;omega),show A ++ (p1' ++ [y]) ++ y :: (p2 ++ (q ++ Z)) = (A ++ p1') ++ y :: (y :: (p2 ++ (q ++ Z))) by simp,dA (A ++ p1') y x _ j (by simp;omega)]
           simp
         by_cases hxy:bO x.key y.key < 0
         · rw [if_pos hxy] at g2
           clear out
           (refine w0 ?_;(repeat' (first|refine W2.mk ?_ ?_|refine W1.mk fun hc=>?_|((first|apply aB rfl|apply aC rfl|apply aD rfl|apply aF rfl);(focus (first|((apply ax 5;(focus rfl);first|exact ae ⟨rfl,rfl,rfl⟩ rfl inferInstance inferInstance rfl rfl rfl HJ rfl rfl rfl|exact ae ⟨rfl,rfl,rfl⟩ rfl inferInstance inferInstance rfl rfl rfl HJ1 rfl rfl rfl))|((apply ax 6;(focus rfl);first|exact al ⟨rfl,rfl⟩ rfl inferInstance rfl rfl rfl rfl HJ rfl (.inl rfl) rfl HS1|exact al ⟨rfl,rfl⟩ rfl inferInstance rfl rfl rfl rfl HJ2 rfl (.inl rfl) rfl HS2))|(exact nv [] hm)|(apply bt;(focus rfl);apply ag rfl rfl rfl rfl rfl;first|((apply ax 5;(focus rfl);first|exact ae ⟨rfl,rfl,rfl⟩ rfl inferInstance inferInstance rfl rfl rfl HJ rfl rfl rfl|exact ae ⟨rfl,rfl,rfl⟩ rfl inferInstance inferInstance rfl rfl rfl HJ1 rfl rfl rfl))|((apply ax 6;(focus rfl);first|exact al ⟨rfl,rfl⟩ rfl inferInstance rfl rfl rfl rfl HJ rfl (.inl rfl) rfl HS1|exact al ⟨rfl,rfl⟩ rfl inferInstance rfl rfl rfl rfl HJ2 rfl (.inl rfl) rfl HS2))|(exact nv [] hm))));refine w0 ?_))))
           refine ⟨(p1',y :: p2),⟨by simp at g1 ⊢;omega,fun z h=>gk1 z (by simp [h]),fun z h=>?_,g2⟩,by simp,?_⟩
           · rcases List.mem_cons.1 h with h|h
             · subst h;exact hky
             · exact gk2 z h
           · simp only [hj]
             exact ab
         · rw [if_neg hxy] at g2
           have e:rz p x = (p1' ++ [y]) ++ x :: p2:=by rw [← g2];simp
           obtain ⟨z,hz,rfl⟩:=out e
           (refine w0 ?_;(repeat' (first|refine W2.mk ?_ ?_|refine W1.mk fun hc=>?_|((first|apply aB rfl|apply aC rfl|apply aD rfl|apply aF rfl);(focus (first|((apply ax 5;(focus rfl);first|exact ae ⟨rfl,rfl,rfl⟩ rfl inferInstance inferInstance rfl rfl rfl HJ rfl rfl rfl|exact ae ⟨rfl,rfl,rfl⟩ rfl inferInstance inferInstance rfl rfl rfl HJ1 rfl rfl rfl))|(exact nv [] hm)|(apply bt;(focus rfl);apply ag rfl rfl rfl rfl rfl;first|((apply ax 5;(focus rfl);first|exact ae ⟨rfl,rfl,rfl⟩ rfl inferInstance inferInstance rfl rfl rfl HJ rfl rfl rfl|exact ae ⟨rfl,rfl,rfl⟩ rfl inferInstance inferInstance rfl rfl rfl HJ1 rfl rfl rfl))|(exact nv [] hm))));refine w0 ?_))))
           refine ⟨_,hz,by simp only;omega,?_⟩
           simp only
           rw [← hL0]
           exact ab
   · have hq:q = []:=List.eq_nil_of_length_eq_zero (by omega)
     subst hq
     simp only [List.foldl_nil] at h5
     (refine w0 ?_;(repeat' first|refine W2.mk ?_ ?_|refine W1.mk fun hc=>?_))
     rw [List.nil_append,h5]
     (refine ⟨(by first|exact .inl rfl|exact .inr rfl),bu [(1000,1000)] rfl rfl ?_⟩;(focus (repeat (first|exact ar.nil|(refine ar.cons rfl ?_ ?_;(focus first|rfl|skip))))))
end
def qr (out:List It) (x:It):List It:=match out.reverse with
 | []=>[x]
 | y :: r=>if y.key = x.key then (if pO x y > 0 then r.reverse ++ [x] else out) else out ++ [x]
def j3 (ls:List (List It)):List It:=(dK (ls.flatten.filter fx)).foldl qr []
theorem gw (l:List It):(dK l).length = l.length:=by
 unfold dK
 have:∀ (l p:List It),(l.foldl rz p).length = p.length + l.length:=by
   intro l
   induction l with
   | nil=>intro p;rfl
   | cons x l ih=>
     intro p
     rw [List.foldl_cons,ih]
     unfold rz
     rw [ES];simp;omega
 simpa using this l []
theorem Bj {l:List It} (h:∀ x ∈ l,fx x = true):mo l:=fun x hx=>by
 have:=(jo (h x hx)).2.2.2
 omega
section
end
end Go.Proofs.YtembiemaiacdfaaGreat
