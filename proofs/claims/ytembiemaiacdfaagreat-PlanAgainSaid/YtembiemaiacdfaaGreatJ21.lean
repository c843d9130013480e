/- Texts joined: Law16 Kk DeP Sort Merge. -/
import Derived.Test.YtembiemaiacdfaaGreatJ14
import Derived.Test.YtembiemaiacdfaaGreatJ08
import Derived.Test.YtembiemaiacdfaaGreatJ05
import Derived.Test.YtembiemaiacdfaaGreatJ20
import Derived.Test.YtembiemaiacdfaaGreatJ10
set_option maxRecDepth 10000
set_option maxHeartbeats 8000000
namespace Go.Proofs.YtembiemaiacdfaaGreat
open Go.RowKit
section
end
section
end
end Go.Proofs.YtembiemaiacdfaaGreat
namespace Go.Proofs.YtembiemaiacdfaaGreat
/-- a right set is what it has, replica by replica -/
theorem knsOk_uniq {a b:List Kn} (ha:knsOk a) (hb:knsOk b) (h:∀ r,r < 16 → ∀ n,hasR (tabAt a r) n ↔ hasR (tabAt b r) n):a = b:=by
 have e:(tabOf a).map ofR = (tabOf b).map ofR:=by
   apply List.ext_getElem?
   intro i
   by_cases hi:i < 16
   · rw [List.getElem?_map,List.getElem?_map,tabOf_get _ hi,tabOf_get _ hi]
     simp only [Option.map_some]
     rw [ofR_cong (h i hi)]
   · rw [List.getElem?_eq_none (by rw [List.length_map,tabOf_len];omega),List.getElem?_eq_none (by rw [List.length_map,tabOf_len];omega)]
 have:=setFrom_map (tabOf a) 0
 rw [e,setFrom_map] at this
 have h1:=vsOf_id ha
 have h2:=vsOf_id hb
 unfold vsOf at h1 h2
 rw [← h1,← h2,this]
theorem tabAt_vsLess (a b:List Kn) {r:Nat} (hr:r < 16):tabAt (vsLess a b) r = lessR (tabAt a r) (tabAt b r):=by
 unfold vsLess
 rw [tabAt_from]
 have hl:(lessTab (tabOf a) (tabOf b)).length = 16:=by unfold lessTab;rw [List.length_zipWith,tabOf_len,tabOf_len];rfl
 rw [dif_pos ⟨Nat.zero_le _,by omega⟩]
 have hg:(lessTab (tabOf a) (tabOf b))[r]? = some (lessR (tabAt a r) (tabAt b r)):=by
   unfold lessTab;rw [List.getElem?_zipWith,tabOf_get _ hr,tabOf_get _ hr]
 obtain ⟨h1,h2⟩:=List.getElem?_eq_some_iff.1 hg
 simp only [Nat.sub_zero,h2]
 exact ofR_id (opR_ok rfl _ _).1
theorem tabAt_vsOf (s:List Kn) {r:Nat} (hr:r < 16):tabAt (vsOf ofR s) r = ofR (tabAt s r):=by
 have h:=tabOf_vsOf s
 have h1:=tabOf_get (vsOf ofR s) hr
 rw [h,List.getElem?_map,tabOf_get _ hr] at h1
 exact (Option.some.inj h1).symm
theorem lessR_has (a b:List Rn) (n:Int):hasR (lessR a b) n ↔ hasR a n ∧ ¬ hasR b n:=by
 unfold lessR
 rw [(opR_ok rfl a b).2 n,byR,lessK,Bool.and_eq_true,hasRb_iff,Bool.not_eq_true',← Bool.not_eq_true,hasRb_iff]
theorem tabAt_app (a b:List Kn) (r:Nat):tabAt (a ++ b) r = tabAt a r ++ tabAt b r:=by unfold tabAt;rw [List.flatMap_append]
/-! ### knowledge, text by text -/
theorem lessKn_cst (a b:List Pc):CstT (fun s=>vsLess (atK a s) (atK b s)) (edgK (a ++ b)):=fun e n hen h=>by
 show vsLess (atK a e) (atK b e) = vsLess (atK a n) (atK b n)
 rw [atK_mid hen (fun p hp m hm=>h m (edgK_isEdge (List.mem_append_left _ hp) hm)),atK_mid hen (fun p hp m hm=>h m (edgK_isEdge (List.mem_append_right _ hp) hm))]
theorem lessKn_ok (a b:List Pc):pcsOk (lessKn a b) ∧ ∀ s,getK (lessKn a b) s = vsLess (atK a s) (atK b s):=bldK_ok (fun _=>vsLess_ok _ _) (edgK_up _) (edgK_ok _) (edgK_em _) (lessKn_cst a b)
theorem atK_or (a b:List Pc) (s:ByteArray):atK (a ++ b) s = vsOf ofR (atK a s ++ atK b s):=by
 rw [← atK_app]
 have:=mkSet_or (atK a s) (atK b s)
 rw [vsOf_id (atK_ok a s),vsOf_id (atK_ok b s)] at this
 exact this
section
variable {P:Program} {n:Nat} {ops:Array Oper} {o:Oper} {S:St}
/-- a call of a function that lies in a slot -/
theorem c_V {f:FuncId} {x0:Operand} {xs:List Operand} {As:List Cnt} {pre post:List (Nat × Blk)} {r:Cnt} (sg:List (Nat × Nat)) (hf:FnM P f As pre r post) (hp:PlM n o:=by exact ⟨rfl,rfl⟩) (ho:isCallV o x0 xs:=by exact ⟨_,rfl⟩) (hx:S.opd x0 = .per (rawP (.func (.func f) #[] #[])):=by rfl) (hok:okS sg = true:=by rfl)
   (hg:GMl S sg xs As:=by first|((repeat (first|exact GMl.nil|(refine GMl.cons ?_ ?_;focus (first|exact gq_per rfl|exact gq_lst rfl|exact gq_row rfl rfl rfl rfl|exact gq_bor rfl|exact gq_nil rfl|exact gq_nil' rfl|exact gq_ref rfl rfl))));done)|fail) (hpre:PreM S sg pre:=by first|((repeat (first|exact PreM.nil|(refine PreM.cons rfl rfl ?_)));done)|fail):OpOk n P ops o (opdN x0 ++ (callN S xs ++ sgN sg)) (r.mp false (lk1 sg) z0 (nvM S.ver sg)) (updM S post sg sg) S:=
 op_callM (cs:=[]) sg hp ho (head_raw hx (fun k h=>by simp [h])) (by simpa using hf) hok (fun p h=>by simp [sg_mem p h]) (hg.gives (fun _ h=>by simp at h ⊢;exact .inr (.inl h)) (fun _ h=>by simp [h])) hpre
end
/-- an item put among others: behind the last one that it does not stand ahead of -/
def insG (x:It):List It → List It → List It
 | [],r=>x :: r
 | y :: l,r=>if cmpB x.key y.key < 0 then insG x l (y :: r) else (y :: l).reverse ++ x :: r
def insR (p:List It) (x:It):List It:=insG x p.reverse []
def srtK (l:List It):List It:=l.foldl insR []
theorem insG_len (x:It):∀ (l r:List It),(insG x l r).length = l.length + 1 + r.length:=by
 intro l
 induction l with
 | nil=>intro r;simp [insG];omega
 | cons y l ih=>
   intro r
   unfold insG
   split
   · rw [ih];simp;omega
   · simp;omega
abbrev cmpC:Cnt:=.per (rawP (.func (.func 127) #[] #[]))
abbrev itsW (l:List It):Blk:=.row 61 7 (l.map itP)
/-- no key is too long -/
def kOk (l:List It):Prop:=∀ x ∈ l,x.key.size ≤ 1000000000
theorem set_at {α:Type} (A:List α) (x y:α) (T:List α) (j:Nat) (hj:j = A.length):(A ++ x :: T).set j y = A ++ y :: T:=by
 subst hj;simp
theorem snoc_cases {α:Type} (l:List α):l = [] ∨ ∃ (l':List α) (y:α),l = l' ++ [y]:=by
 rcases List.eq_nil_or_concat l with h|⟨a,y,h⟩
 · exact .inl h
 · exact .inr ⟨a,y,by rw [h];simp⟩
theorem map_set' {α β:Type} (f:α → β) (l:List α) (j:Nat) (y:α):(l.map f).set j (f y) = (l.set j y).map f:=by rw [List.map_set]
section
theorem merge_1 (x y:It) (hx:x.key.size ≤ 1000000000):FnM Tryz.prog 127 [itC x,itC y] [] (.per (rawP (.int .i64 (cmpB x.key y.key)))) []:=by
 have h1:=key_Cmp x.key y.key (by omega)
 refine fmi Tryz.func127 Tryz.ntmps127 ?_
 (have kc1:=h1;refine w0 ?_;(repeat' first|refine W2.mk ?_ ?_|refine W1.mk fun hc=>?_);all_goals clear kc1)
 refine ⟨(by first|exact .inl rfl|exact .inr rfl),resM1 [] rfl rfl .nil ?_⟩
 exact rvm_int rfl rfl
theorem sort_ins (A M Z:List It) (hk:kOk M) (hl:(A ++ M ++ Z).length ≤ 1000000000):FnM Tryz.prog 202 [.row 1000 0,iC .i64 (A.length:Nat),iC .i64 ((A.length + M.length:Nat):Int),cmpC] [(1000,itsW (A ++ M ++ Z))] .any [(1000,itsW (A ++ srtK M ++ Z))]:=by
 generalize hR:A ++ srtK M ++ Z = R
 generalize hb:A.length + M.length = b
 simp only [List.length_append] at hl
 refine fmi Tryz.func202 Tryz.ntmps202 ?_
 (refine w0 ?_;(repeat' first|refine W2.mk ?_ ?_|refine W1.mk fun hc=>?_))
 refine AW_loopP (X:=Nat × List It × List It) (fun x=>A.length < x.1 ∧ x.1 ≤ b + 1 ∧ A.length + x.2.1.length = min x.1 b ∧ A.length + x.2.1.length + x.2.2.length = b ∧ kOk x.2.1 ∧ kOk x.2.2 ∧ A ++ x.2.2.foldl insR x.2.1 ++ Z = R)
   (fun x=>mkSt [(0,.row 1000 0),(1,iC .i64 (A.length:Nat)),(2,iC .i64 (b:Nat)),(3,cmpC),(8,iC .i64 (x.1:Nat))] [(1000,itsW (A ++ x.2.1 ++ (x.2.2 ++ Z)))]) (fun x=>b + 1 - x.1) (A.length + 1,M.take 1,M.drop 1) ?_ ?_ ?_
 · refine ⟨by simp only;omega,by simp only;omega,by simp only [List.length_take];omega,by simp only [List.length_take,List.length_drop];omega,fun x h=>hk x (List.mem_of_mem_take h),fun x h=>hk x (List.mem_of_mem_drop h),?_⟩
   rw [← hR]
   cases M with
   | nil=>rfl
   | cons x M=>rfl
 · have e:A ++ M.take 1 ++ (M.drop 1 ++ Z) = A ++ M ++ Z:=by
     rw [List.append_assoc,← List.append_assoc (M.take 1),List.take_append_drop,List.append_assoc]
   rw [e]
   exact le_auto
 · rintro ⟨i,p,q⟩ ⟨h1,h2,h3,h4,hkp,hkq,h5⟩
   simp only at h1 h2 h3 h4 hkp hkq h5 ⊢
   by_cases hlt:i < b
   · obtain ⟨x,q,rfl⟩:∃ x q',q = x :: q':=by
       cases q with
       | nil=>simp at h4;omega
       | cons x q=>exact ⟨x,q,rfl⟩
     have hip:A.length + p.length = i:=by omega
     clear h3
     have hkx:=hkq x (by simp)
     simp only [List.length_cons,List.foldl_cons] at h4 h5
     (repeat' (first|refine AW_seq ?_|refine AW_block ?_|refine AW_skip ?_|refine AW_exit ?_|refine AW_ret ?_|refine AW_region ?_|refine AL_nil ?_|refine AD_nil (by kernel_rfl) ?_|(refine AW_cl rfl rfl ⟨fun hc=>?_,fun hc=>?_⟩ <;> (repeat rw [List.length_map] at hc) <;> (try exact absd hc))|((first|apply AL_t rfl|apply AL_0 rfl|apply AD_t rfl|apply AD_0 rfl);focus (first|exact z_auto|fail))|refine thenA_n ?_|refine thenA_r ?_|refine thenA_e ?_|refine inB_n ?_|refine inB_r ?_|refine inB_hit ?_|refine inB_miss rfl ?_|((first|refine AL_cl rfl rfl rfl ⟨fun hc=>?_,fun hc=>?_⟩|refine AD_cl rfl rfl rfl ⟨fun hc=>?_,fun hc=>?_⟩) <;> (fail_if_success (have q:(true = true):=hc)) <;> (fail_if_success (have q:(false = false):=hc)) <;> (repeat rw [List.length_map] at hc) <;> (try exact absd hc))|refine AW_cond_nil rfl rfl (fun hc=>?_) ?_))
     refine AW_loopP (X:=List It × List It) (fun y=>y.1.length + y.2.length = p.length ∧ kOk y.1 ∧ kOk y.2 ∧ insG x y.1.reverse y.2 = insR p x)
       (fun y=>mkSt [(0,.row 1000 0),(1,iC .i64 (A.length:Nat)),(2,iC .i64 (b:Nat)),(3,cmpC),(8,iC .i64 (i:Nat)),(9,iC .i64 ((A.length + y.1.length:Nat):Int))] [(1000,itsW (A ++ y.1 ++ x :: (y.2 ++ (q ++ Z))))]) (fun y=>y.1.length) (p,[]) ⟨by simp,hkp,fun x h=>by simp at h,rfl⟩ ?_ ?_
     · subst hip
       exact le_auto
     · rintro ⟨p1,p2⟩ ⟨g1,gk1,gk2,g2⟩
       simp only at g1 gk1 gk2 g2 ⊢
       have out:insR p x = p1 ++ x :: p2 → (∃ z:Nat × List It × List It,(A.length < z.1 ∧ z.1 ≤ b + 1 ∧ A.length + z.2.1.length = min z.1 b ∧ A.length + z.2.1.length + z.2.2.length = b ∧ kOk z.2.1 ∧ kOk z.2.2 ∧ A ++ z.2.2.foldl insR z.2.1 ++ Z = R) ∧ z = (i + 1,p1 ++ x :: p2,q)):=fun e=>by
         refine ⟨_,⟨by simp only;omega,by simp only;omega,by simp;omega,by simp;omega,fun y hy=>?_,fun y hy=>hkq y (by simp [hy]),by rw [← e];exact h5⟩,rfl⟩
         rcases List.mem_append.1 hy with h|h
         · exact gk1 y h
         · rcases List.mem_cons.1 h with h|h
           · subst h;exact hkx
           · exact gk2 y h
       have hL0:A ++ p1 ++ x :: (p2 ++ (q ++ Z)) = A ++ (p1 ++ x :: p2) ++ (q ++ Z):=by simp
       rcases snoc_cases p1 with rfl|⟨p1',y,rfl⟩
       · have e:insR p x = [] ++ x :: p2:=by rw [← g2];rfl
         obtain ⟨z,hz,rfl⟩:=out e
         rw [hL0]
         (refine w0 ?_;(repeat' first|refine W2.mk ?_ ?_|refine W1.mk fun hc=>?_))
         refine ⟨_,hz,by simp only;omega,?_⟩
         exact le_auto
       · obtain ⟨j,hj⟩:∃ j,A.length + p1'.length = j:=⟨_,rfl⟩
         have hj1:A.length + (p1' ++ [y]).length = j + 1:=by simp;omega
         have hky:=gk1 y (by simp)
         have hm:=merge_1 x y hkx
         generalize hL:A ++ (p1' ++ [y]) ++ x :: (p2 ++ (q ++ Z)) = L at *
         have hlen:j + 1 < L.length:=by rw [← hL];simp;omega
         have HJ:(L.map itP)[j + 1]? = some (itP x):=by
           rw [List.getElem?_map,← hL,List.getElem?_append_right (by simp;omega),List.length_append,hj1,Nat.sub_self];rfl
         have HJ1:(L.map itP)[j]? = some (itP y):=by
           rw [List.getElem?_map,← hL,List.append_assoc,List.append_assoc,List.getElem?_append_right (by omega),List.getElem?_append_right (by omega)]
           rw [show j - A.length - p1'.length = 0 by omega];rfl
         rw [hj1]
         have hrev:(p1' ++ [y]).reverse = y :: p1'.reverse:=by simp
         rw [hrev,insG] at g2
         have HS1:(L.map itP).set (j + 1) (setP (itP x) 0 (itP y)) = (L.set (j + 1) y).map itP:=by rw [← map_set'];rfl
         have HJ2:((L.set (j + 1) y).map itP)[j]? = some (itP y):=by
           rw [← map_set',List.getElem?_set_ne (by omega)];exact HJ1
         have HS2:((L.set (j + 1) y).map itP).set j (setP (itP y) 0 (itP x)) = (A ++ p1' ++ x :: ((y :: p2) ++ (q ++ Z))).map itP:=by
           rw [map_set' itP (L.set (j + 1) y) j x |>.symm.trans rfl |> fun h=>(show ((L.set (j + 1) y).map itP).set j (setP (itP y) 0 (itP x)) = ((L.set (j + 1) y).set j x).map itP from map_set' itP _ j x)]
           rw [← hL,set_at (A ++ (p1' ++ [y])) x y _ (j + 1) (by simp;omega),show A ++ (p1' ++ [y]) ++ y :: (p2 ++ (q ++ Z)) = (A ++ p1') ++ y :: (y :: (p2 ++ (q ++ Z))) by simp,set_at (A ++ p1') y x _ j (by simp;omega)]
           simp
         by_cases hxy:cmpB x.key y.key < 0
         · rw [if_pos hxy] at g2
           clear out
           (refine w0 ?_;(repeat' (first|refine W2.mk ?_ ?_|refine W1.mk fun hc=>?_|((first|apply AL_t rfl|apply AL_0 rfl|apply AD_t rfl|apply AD_0 rfl);(focus (first|((apply u_k 5;(focus rfl);first|exact u_load_rA ⟨rfl,rfl,rfl⟩ rfl inferInstance inferInstance rfl rfl rfl HJ rfl rfl rfl|exact u_load_rA ⟨rfl,rfl,rfl⟩ rfl inferInstance inferInstance rfl rfl rfl HJ1 rfl rfl rfl))|((apply u_k 6;(focus rfl);first|exact u_store_r ⟨rfl,rfl⟩ rfl inferInstance rfl rfl rfl rfl HJ rfl (.inl rfl) rfl HS1|exact u_store_r ⟨rfl,rfl⟩ rfl inferInstance rfl rfl rfl rfl HJ2 rfl (.inl rfl) rfl HS2))|(exact c_V [] hm)|(apply u_g;(focus rfl);apply op_gyes rfl rfl rfl rfl rfl;first|((apply u_k 5;(focus rfl);first|exact u_load_rA ⟨rfl,rfl,rfl⟩ rfl inferInstance inferInstance rfl rfl rfl HJ rfl rfl rfl|exact u_load_rA ⟨rfl,rfl,rfl⟩ rfl inferInstance inferInstance rfl rfl rfl HJ1 rfl rfl rfl))|((apply u_k 6;(focus rfl);first|exact u_store_r ⟨rfl,rfl⟩ rfl inferInstance rfl rfl rfl rfl HJ rfl (.inl rfl) rfl HS1|exact u_store_r ⟨rfl,rfl⟩ rfl inferInstance rfl rfl rfl rfl HJ2 rfl (.inl rfl) rfl HS2))|(exact c_V [] hm))));refine w0 ?_))))
           refine ⟨(p1',y :: p2),⟨by simp at g1 ⊢;omega,fun z h=>gk1 z (by simp [h]),fun z h=>?_,g2⟩,by simp,?_⟩
           · rcases List.mem_cons.1 h with h|h
             · subst h;exact hky
             · exact gk2 z h
           · simp only [hj]
             exact le_auto
         · rw [if_neg hxy] at g2
           have e:insR p x = (p1' ++ [y]) ++ x :: p2:=by rw [← g2];simp
           obtain ⟨z,hz,rfl⟩:=out e
           (refine w0 ?_;(repeat' (first|refine W2.mk ?_ ?_|refine W1.mk fun hc=>?_|((first|apply AL_t rfl|apply AL_0 rfl|apply AD_t rfl|apply AD_0 rfl);(focus (first|((apply u_k 5;(focus rfl);first|exact u_load_rA ⟨rfl,rfl,rfl⟩ rfl inferInstance inferInstance rfl rfl rfl HJ rfl rfl rfl|exact u_load_rA ⟨rfl,rfl,rfl⟩ rfl inferInstance inferInstance rfl rfl rfl HJ1 rfl rfl rfl))|(exact c_V [] hm)|(apply u_g;(focus rfl);apply op_gyes rfl rfl rfl rfl rfl;first|((apply u_k 5;(focus rfl);first|exact u_load_rA ⟨rfl,rfl,rfl⟩ rfl inferInstance inferInstance rfl rfl rfl HJ rfl rfl rfl|exact u_load_rA ⟨rfl,rfl,rfl⟩ rfl inferInstance inferInstance rfl rfl rfl HJ1 rfl rfl rfl))|(exact c_V [] hm))));refine w0 ?_))))
           refine ⟨_,hz,by simp only;omega,?_⟩
           simp only
           rw [← hL0]
           exact le_auto
   · have hq:q = []:=List.eq_nil_of_length_eq_zero (by omega)
     subst hq
     simp only [List.foldl_nil] at h5
     (refine w0 ?_;(repeat' first|refine W2.mk ?_ ?_|refine W1.mk fun hc=>?_))
     rw [List.nil_append,h5]
     (refine ⟨(by first|exact .inl rfl|exact .inr rfl),resM0 [(1000,1000)] rfl rfl ?_⟩;(focus (repeat (first|exact AllX.nil|(refine AllX.cons rfl ?_ ?_;(focus first|rfl|skip))))))
end
/-- one more, behind what is merged so far -/
def mrgF (out:List It) (x:It):List It:=match out.reverse with
 | []=>[x]
 | y :: r=>if y.key = x.key then (if cmpI x y > 0 then r.reverse ++ [x] else out) else out ++ [x]
def mergeK (ls:List (List It)):List It:=(srtK (ls.flatten.filter itR)).foldl mrgF []
theorem mrgF_len (out:List It) (x:It):(mrgF out x).length ≤ out.length + 1:=by
 unfold mrgF
 rcases snoc_cases out with rfl|⟨o,y,rfl⟩
 · simp
 · simp only [List.reverse_append,List.reverse_cons,List.reverse_nil,List.nil_append,List.singleton_append]
   split
   · split <;> simp
   · simp
theorem srtK_len (l:List It):(srtK l).length = l.length:=by
 unfold srtK
 have:∀ (l p:List It),(l.foldl insR p).length = p.length + l.length:=by
   intro l
   induction l with
   | nil=>intro p;rfl
   | cons x l ih=>
     intro p
     rw [List.foldl_cons,ih]
     unfold insR
     rw [insG_len];simp;omega
 simpa using this l []
theorem kOk_right {l:List It} (h:∀ x ∈ l,itR x = true):kOk l:=fun x hx=>by
 have:=(itR_nums (h x hx)).2.2.2
 omega
section
end
end Go.Proofs.YtembiemaiacdfaaGreat
