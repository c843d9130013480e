/- Texts joined: Law16 Kk DeP Sort Merge. -/
import Derived.Test.YtembiemaiacdfaaGreatJ13
import Derived.Test.YtembiemaiacdfaaGreatJ08
import Derived.Test.YtembiemaiacdfaaGreatJ05
import Derived.Test.YtembiemaiacdfaaGreatJ19
import Derived.Test.YtembiemaiacdfaaGreatJ09
set_option maxRecDepth 10000
set_option maxHeartbeats 8000000
namespace Go.Proofs.YtembiemaiacdfaaGreat
open Go.RowKit
section
end
section
end
end Go.Proofs.YtembiemaiacdfaaGreat
namespace Go.Proofs.YtembiemaiacdfaaGreat
theorem qC {a b:List Kn} (ha:bK a) (hb:bK b) (h:∀ r,r < 16 → ∀ n,dD (aC a r) n ↔ dD (aC b r) n):a = b:=by
 have e:(bj a).map ofR = (bj b).map ofR:=by
   apply List.ext_getElem?
   intro i
   by_cases hi:i < 16
   · rw [List.getElem?_map,List.getElem?_map,bn _ hi,bn _ hi]
     simp only [Option.map_some]
     rw [wd (h i hi)]
   · rw [List.getElem?_eq_none (by rw [List.length_map,aY];omega),List.getElem?_eq_none (by rw [List.length_map,aY];omega)]
 have:=jd (bj a) 0
 rw [e,jd] at this
 have h1:=ia ha
 have h2:=ia hb
 unfold em at h1 h2
 rw [← h1,← h2,this]
theorem ue (a b:List Kn) {r:Nat} (hr:r < 16):aC (kV a b) r = wm (aC a r) (aC b r):=by
 unfold kV
 rw [qv]
 have hl:(lO (bj a) (bj b)).length = 16:=by unfold lO;rw [List.length_zipWith,aY,aY];rfl
 rw [dif_pos ⟨Nat.zero_le _,by omega⟩]
 have hg:(lO (bj a) (bj b))[r]? = some (wm (aC a r) (aC b r)):=by
   unfold lO;rw [List.getElem?_zipWith,bn _ hr,bn _ hr]
 obtain ⟨h1,h2⟩:=List.getElem?_eq_some_iff.1 hg
 simp only [Nat.sub_zero,h2]
 exact tQ (tV rfl _ _).1
theorem kj (s:List Kn) {r:Nat} (hr:r < 16):aC (em ofR s) r = ofR (aC s r):=by
 have h:=mq s
 have h1:=bn (em ofR s) hr
 rw [h,List.getElem?_map,bn _ hr] at h1
 exact (Option.some.inj h1).symm
theorem Cm (a b:List Rn) (n:Int):dD (wm a b) n ↔ dD a n ∧ ¬ dD b n:=by
 unfold wm
 rw [(tV rfl a b).2 n,rK,J6,Bool.and_eq_true,eF,Bool.not_eq_true',← Bool.not_eq_true,eF]
theorem lP (a b:List Kn) (r:Nat):aC (a ++ b) r = aC a r ++ aC b r:=by unfold aC;rw [List.flatMap_append]
theorem y8 (a b:List Pc):Cb (fun s=>kV (fh a s) (fh b s)) (fN (a ++ b)):=fun e n hen h=>by
 show kV (fh a e) (fh b e) = kV (fh a n) (fh b n)
 rw [po hen (fun p hp m hm=>h m (kZ (List.mem_append_left _ hp) hm)),po hen (fun p hp m hm=>h m (kZ (List.mem_append_right _ hp) hm))]
theorem Cn (a b:List Pc):aO (ud a b) ∧ ∀ s,cH (ud a b) s = kV (fh a s) (fh b s):=pl (fun _=>sA _ _) (pm _) (pn _) (tZ _) (y8 a b)
theorem oy (a b:List Pc) (s:ByteArray):fh (a ++ b) s = em ofR (fh a s ++ fh b s):=by
 rw [← AE]
 have:=ws (fh a s) (fh b s)
 rw [ia (oo a s),ia (oo b s)] at this
 exact this
section
variable {P:Program} {n:Nat} {ops:Array Oper} {o:Oper} {S:St}
theorem nL {f:FuncId} {x0:Operand} {xs:List Operand} {As:List Cnt} {pre post:List (Nat × Blk)} {r:Cnt} (sg:List (Nat × Nat)) (hf:el P f As pre r post) (hp:BK n o:=by exact ⟨rfl,rfl⟩) (ho:gZ o x0 xs:=by exact ⟨_,rfl⟩) (hx:S.opd x0 = .per (aq (.func (.func f) #[] #[])):=by rfl) (hok:D8 sg = true:=by rfl)
   (hg:oO S sg xs As:=by first|((repeat (first|exact oO.nil|(refine oO.cons ?_ ?_;focus (first|exact mg rfl|exact gq_lst rfl|exact gq_row rfl rfl rfl rfl|exact mh rfl|exact gq_nil rfl|exact gq_nil' rfl|exact kQ rfl rfl))));done)|fail) (hpre:kA S sg pre:=by first|((repeat (first|exact kA.nil|(refine kA.cons rfl rfl ?_)));done)|fail):an n P ops o (ax x0 ++ (ed S xs ++ yi sg)) (r.mp false (iQ sg) z0 (rx S.ver sg)) (kM S post sg sg) S:=
 jw (cs:=[]) sg hp ho (vF hx (fun k h=>by simp [h])) (by simpa using hf) hok (fun p h=>by simp [pT p h]) (hg.gives (fun _ h=>by simp at h ⊢;exact .inr (.inl h)) (fun _ h=>by simp [h])) hpre
end
def uf (x:It):List It → List It → List It
 | [],r=>x :: r
 | y :: l,r=>if bG x.key y.key < 0 then uf x l (y :: r) else (y :: l).reverse ++ x :: r
def rN (p:List It) (x:It):List It:=uf x p.reverse []
def dP (l:List It):List It:=l.foldl rN []
theorem FJ (x:It):∀ (l r:List It),(uf x l r).length = l.length + 1 + r.length:=by
 intro l
 induction l with
 | nil=>intro r;simp [uf];omega
 | cons y l ih=>
   intro r
   unfold uf
   split
   · rw [ih];simp;omega
   · simp;omega
abbrev k6:Cnt:=.per (aq (.func (.func 127) #[] #[]))
abbrev dR (l:List It):Blk:=.row 61 7 (l.map itP)
def jG (l:List It):Prop:=∀ x ∈ l,x.key.size ≤ 1000000000
theorem dE {α:Type} (A:List α) (x y:α) (T:List α) (j:Nat) (hj:j = A.length):(A ++ x :: T).set j y = A ++ y :: T:=by
 subst hj;simp
theorem cP {α:Type} (l:List α):l = [] ∨ ∃ (l':List α) (y:α),l = l' ++ [y]:=by
 rcases List.eq_nil_or_concat l with h|⟨a,y,h⟩
 · exact .inl h
 · exact .inr ⟨a,y,by rw [h];simp⟩
theorem bp {α β:Type} (f:α → β) (l:List α) (j:Nat) (y:α):(l.map f).set j (f y) = (l.set j y).map f:=by rw [List.map_set]
section
theorem ng (x y:It) (hx:x.key.size ≤ 1000000000):el Tryz.prog 127 [uK x,uK y] [] (.per (aq (.int .i64 (bG x.key y.key)))) []:=by
 have h1:=e7 x.key y.key (by omega)
 refine fm Tryz.func127 Tryz.ntmps127 ?_
 (have kc1:=h1;refine w0 ?_;(repeat' first|refine W2.mk ?_ ?_|refine W1.mk fun hc=>?_);all_goals clear kc1)
 refine ⟨(by first|exact .inl rfl|exact .inr rfl),bR [] rfl rfl .nil ?_⟩
 exact bf rfl rfl
theorem wz (A M Z:List It) (hk:jG M) (hl:(A ++ M ++ Z).length ≤ 1000000000):el Tryz.prog 202 [.row 1000 0,iC .i64 (A.length:Nat),iC .i64 ((A.length + M.length:Nat):Int),k6] [(1000,dR (A ++ M ++ Z))] .any [(1000,dR (A ++ dP M ++ Z))]:=by
 generalize hR:A ++ dP M ++ Z = R
 generalize hb:A.length + M.length = b
 simp only [List.length_append] at hl
 refine fm Tryz.func202 Tryz.ntmps202 ?_
 (refine w0 ?_;(repeat' first|refine W2.mk ?_ ?_|refine W1.mk fun hc=>?_))
 refine ah (X:=Nat × List It × List It) (fun x=>A.length < x.1 ∧ x.1 ≤ b + 1 ∧ A.length + x.2.1.length = min x.1 b ∧ A.length + x.2.1.length + x.2.2.length = b ∧ jG x.2.1 ∧ jG x.2.2 ∧ A ++ x.2.2.foldl rN x.2.1 ++ Z = R)
   (fun x=>aN [(0,.row 1000 0),(1,iC .i64 (A.length:Nat)),(2,iC .i64 (b:Nat)),(3,k6),(8,iC .i64 (x.1:Nat))] [(1000,dR (A ++ x.2.1 ++ (x.2.2 ++ Z)))]) (fun x=>b + 1 - x.1) (A.length + 1,M.take 1,M.drop 1) ?_ ?_ ?_
 · refine ⟨by simp only;omega,by simp only;omega,by simp only [List.length_take];omega,by simp only [List.length_take,List.length_drop];omega,fun x h=>hk x (List.mem_of_mem_take h),fun x h=>hk x (List.mem_of_mem_drop h),?_⟩
   rw [← hR]
   cases M with
   | nil=>rfl
   | cons x M=>rfl
 · have e:A ++ M.take 1 ++ (M.drop 1 ++ Z) = A ++ M ++ Z:=by
     rw [List.append_assoc,← List.append_assoc (M.take 1),List.take_append_drop,List.append_assoc]
   rw [e]
   exact ab
 · rintro ⟨i,p,q⟩ ⟨h1,h2,h3,h4,hkp,hkq,h5⟩
   simp only at h1 h2 h3 h4 hkp hkq h5 ⊢
   by_cases hlt:i < b
   · obtain ⟨x,q,rfl⟩:∃ x q',q = x :: q':=by
       cases q with
       | nil=>simp at h4;omega
       | cons x q=>exact ⟨x,q,rfl⟩
     have hip:A.length + p.length = i:=by omega
     clear h3
     have hkx:=hkq x (by simp)
     simp only [List.length_cons,List.foldl_cons] at h4 h5
     (repeat' (first|refine cN ?_|refine bD ?_|refine cc ?_|refine cd ?_|refine cO ?_|refine bi ?_|refine cL ?_|refine cM (by kernel_rfl) ?_|(refine gw rfl rfl ⟨fun hc=>?_,fun hc=>?_⟩ <;> (repeat rw [List.length_map] at hc) <;> (try exact dy hc))|((first|apply aD rfl|apply aF rfl|apply aG rfl|apply aH rfl);focus (first|exact dY|fail))|refine ce ?_|refine cg ?_|refine ci ?_|refine d8 ?_|refine d9 ?_|refine cj ?_|refine bF rfl ?_|((first|refine gx rfl rfl rfl ⟨fun hc=>?_,fun hc=>?_⟩|refine gy rfl rfl rfl ⟨fun hc=>?_,fun hc=>?_⟩) <;> (fail_if_success (have q:(true = true):=hc)) <;> (fail_if_success (have q:(false = false):=hc)) <;> (repeat rw [List.length_map] at hc) <;> (try exact dy hc))|refine br rfl rfl (fun hc=>?_) ?_))
     refine ah (X:=List It × List It) (fun y=>y.1.length + y.2.length = p.length ∧ jG y.1 ∧ jG y.2 ∧ uf x y.1.reverse y.2 = rN p x)
       (fun y=>aN [(0,.row 1000 0),(1,iC .i64 (A.length:Nat)),(2,iC .i64 (b:Nat)),(3,k6),(8,iC .i64 (i:Nat)),(9,iC .i64 ((A.length + y.1.length:Nat):Int))] [(1000,dR (A ++ y.1 ++ x :: (y.2 ++ (q ++ Z))))]) (fun y=>y.1.length) (p,[]) ⟨by simp,hkp,fun x h=>by simp at h,rfl⟩ ?_ ?_
     · subst hip
       exact ab
     · rintro ⟨p1,p2⟩ ⟨g1,gk1,gk2,g2⟩
       simp only at g1 gk1 gk2 g2 ⊢
       have out:rN p x = p1 ++ x :: p2 → (∃ z:Nat × List It × List It,(A.length < z.1 ∧ z.1 ≤ b + 1 ∧ A.length + z.2.1.length = min z.1 b ∧ A.length + z.2.1.length + z.2.2.length = b ∧ jG z.2.1 ∧ jG z.2.2 ∧ A ++ z.2.2.foldl rN z.2.1 ++ Z = R) ∧ z = (i + 1,p1 ++ x :: p2,q)):=fun e=>by
         refine ⟨_,⟨by simp only;omega,by simp only;omega,by simp;omega,by simp;omega,fun y hy=>?_,fun y hy=>hkq y (by simp [hy]),by rw [← e];exact h5⟩,rfl⟩
         rcases List.mem_append.1 hy with h|h
         · exact gk1 y h
         · rcases List.mem_cons.1 h with h|h
           · subst h;exact hkx
           · exact gk2 y h
       have hL0:A ++ p1 ++ x :: (p2 ++ (q ++ Z)) = A ++ (p1 ++ x :: p2) ++ (q ++ Z):=by simp
       rcases cP p1 with rfl|⟨p1',y,rfl⟩
       · have e:rN p x = [] ++ x :: p2:=by rw [← g2];rfl
         obtain ⟨z,hz,rfl⟩:=out e
         rw [hL0]
         (refine w0 ?_;(repeat' first|refine W2.mk ?_ ?_|refine W1.mk fun hc=>?_))
         refine ⟨_,hz,by simp only;omega,?_⟩
         exact ab
       · obtain ⟨j,hj⟩:∃ j,A.length + p1'.length = j:=⟨_,rfl⟩
         have hj1:A.length + (p1' ++ [y]).length = j + 1:=by simp;omega
         have hky:=gk1 y (by simp)
         have hm:=ng x y hkx
         generalize hL:A ++ (p1' ++ [y]) ++ x :: (p2 ++ (q ++ Z)) = L at *
         have hlen:j + 1 < L.length:=by rw [← hL];simp;omega
         have HJ:(L.map itP)[j + 1]? = some (itP x):=by
           rw [List.getElem?_map,← hL,List.getElem?_append_right (by simp;omega),List.length_append,hj1,Nat.sub_self];rfl
         have HJ1:(L.map itP)[j]? = some (itP y):=by
           rw [List.getElem?_map,← hL,List.append_assoc,List.append_assoc,List.getElem?_append_right (by omega),List.getElem?_append_right (by omega)]
           rw [show j - A.length - p1'.length = 0 by omega];rfl
         rw [hj1]
         have hrev:(p1' ++ [y]).reverse = y :: p1'.reverse:=by simp
         rw [hrev,uf] at g2
         have HS1:(L.map itP).set (j + 1) (bI (itP x) 0 (itP y)) = (L.set (j + 1) y).map itP:=by rw [← bp];rfl
         have HJ2:((L.set (j + 1) y).map itP)[j]? = some (itP y):=by
           rw [← bp,List.getElem?_set_ne (by omega)];exact HJ1
         have HS2:((L.set (j + 1) y).map itP).set j (bI (itP y) 0 (itP x)) = (A ++ p1' ++ x :: ((y :: p2) ++ (q ++ Z))).map itP:=by
           rw [bp itP (L.set (j + 1) y) j x |>.symm.trans rfl |> fun h=>(show ((L.set (j + 1) y).map itP).set j (bI (itP y) 0 (itP x)) = ((L.set (j + 1) y).set j x).map itP from bp itP _ j x)]
           rw [← hL,dE (A ++ (p1' ++ [y])) x y _ (j + 1) (by simp;omega),show A ++ (p1' ++ [y]) ++ y :: (p2 ++ (q ++ Z)) = (A ++ p1') ++ y :: (y :: (p2 ++ (q ++ Z))) by simp,dE (A ++ p1') y x _ j (by simp;omega)]
           simp
         by_cases hxy:bG x.key y.key < 0
         · rw [if_pos hxy] at g2
           clear out
           (refine w0 ?_;(repeat' (first|refine W2.mk ?_ ?_|refine W1.mk fun hc=>?_|((first|apply aD rfl|apply aF rfl|apply aG rfl|apply aH rfl);(focus (first|((apply az 5;(focus rfl);first|exact ae ⟨rfl,rfl,rfl⟩ rfl inferInstance inferInstance rfl rfl rfl HJ rfl rfl rfl|exact ae ⟨rfl,rfl,rfl⟩ rfl inferInstance inferInstance rfl rfl rfl HJ1 rfl rfl rfl))|((apply az 6;(focus rfl);first|exact al ⟨rfl,rfl⟩ rfl inferInstance rfl rfl rfl rfl HJ rfl (.inl rfl) rfl HS1|exact al ⟨rfl,rfl⟩ rfl inferInstance rfl rfl rfl rfl HJ2 rfl (.inl rfl) rfl HS2))|(exact nL [] hm)|(apply bx;(focus rfl);apply ag rfl rfl rfl rfl rfl;first|((apply az 5;(focus rfl);first|exact ae ⟨rfl,rfl,rfl⟩ rfl inferInstance inferInstance rfl rfl rfl HJ rfl rfl rfl|exact ae ⟨rfl,rfl,rfl⟩ rfl inferInstance inferInstance rfl rfl rfl HJ1 rfl rfl rfl))|((apply az 6;(focus rfl);first|exact al ⟨rfl,rfl⟩ rfl inferInstance rfl rfl rfl rfl HJ rfl (.inl rfl) rfl HS1|exact al ⟨rfl,rfl⟩ rfl inferInstance rfl rfl rfl rfl HJ2 rfl (.inl rfl) rfl HS2))|(exact nL [] hm))));refine w0 ?_))))
           refine ⟨(p1',y :: p2),⟨by simp at g1 ⊢;omega,fun z h=>gk1 z (by simp [h]),fun z h=>?_,g2⟩,by simp,?_⟩
           · rcases List.mem_cons.1 h with h|h
             · subst h;exact hky
             · exact gk2 z h
           · simp only [hj]
             exact ab
         · rw [if_neg hxy] at g2
           have e:rN p x = (p1' ++ [y]) ++ x :: p2:=by rw [← g2];simp
           obtain ⟨z,hz,rfl⟩:=out e
           (refine w0 ?_;(repeat' (first|refine W2.mk ?_ ?_|refine W1.mk fun hc=>?_|((first|apply aD rfl|apply aF rfl|apply aG rfl|apply aH rfl);(focus (first|((apply az 5;(focus rfl);first|exact ae ⟨rfl,rfl,rfl⟩ rfl inferInstance inferInstance rfl rfl rfl HJ rfl rfl rfl|exact ae ⟨rfl,rfl,rfl⟩ rfl inferInstance inferInstance rfl rfl rfl HJ1 rfl rfl rfl))|(exact nL [] hm)|(apply bx;(focus rfl);apply ag rfl rfl rfl rfl rfl;first|((apply az 5;(focus rfl);first|exact ae ⟨rfl,rfl,rfl⟩ rfl inferInstance inferInstance rfl rfl rfl HJ rfl rfl rfl|exact ae ⟨rfl,rfl,rfl⟩ rfl inferInstance inferInstance rfl rfl rfl HJ1 rfl rfl rfl))|(exact nL [] hm))));refine w0 ?_))))
           refine ⟨_,hz,by simp only;omega,?_⟩
           simp only
           rw [← hL0]
           exact ab
   · have hq:q = []:=List.eq_nil_of_length_eq_zero (by omega)
     subst hq
     simp only [List.foldl_nil] at h5
     (refine w0 ?_;(repeat' first|refine W2.mk ?_ ?_|refine W1.mk fun hc=>?_))
     rw [List.nil_append,h5]
     (refine ⟨(by first|exact .inl rfl|exact .inr rfl),bA [(1000,1000)] rfl rfl ?_⟩;(focus (repeat (first|exact ay.nil|(refine ay.cons rfl ?_ ?_;(focus first|rfl|skip))))))
end
def mx (out:List It) (x:It):List It:=match out.reverse with
 | []=>[x]
 | y :: r=>if y.key = x.key then (if mW x y > 0 then r.reverse ++ [x] else out) else out ++ [x]
def aV (ls:List (List It)):List It:=(dP (ls.flatten.filter itR)).foldl mx []
theorem FK (out:List It) (x:It):(mx out x).length ≤ out.length + 1:=by
 unfold mx
 rcases cP out with rfl|⟨o,y,rfl⟩
 · simp
 · simp only [List.reverse_append,List.reverse_cons,List.reverse_nil,List.nil_append,List.singleton_append]
   split
   · split <;> simp
   · simp
theorem fH (l:List It):(dP l).length = l.length:=by
 unfold dP
 have:∀ (l p:List It),(l.foldl rN p).length = p.length + l.length:=by
   intro l
   induction l with
   | nil=>intro p;rfl
   | cons x l ih=>
     intro p
     rw [List.foldl_cons,ih]
     unfold rN
     rw [FJ];simp;omega
 simpa using this l []
theorem Co {l:List It} (h:∀ x ∈ l,itR x = true):jG l:=fun x hx=>by
 have:=(pW (h x hx)).2.2.2
 omega
section
end
end Go.Proofs.YtembiemaiacdfaaGreat
