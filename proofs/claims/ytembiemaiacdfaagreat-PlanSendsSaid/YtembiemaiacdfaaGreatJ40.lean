/- Texts joined: PlR SwB PlS PlM Law34 LawFd. -/
import Derived.Test.YtembiemaiacdfaaGreatJ39
import Derived.Test.YtembiemaiacdfaaGreatJ05
import Derived.Test.YtembiemaiacdfaaGreatJ23
import Derived.Test.YtembiemaiacdfaaGreatJ28
import Derived.Test.YtembiemaiacdfaaGreatJ20
import Derived.Test.YtembiemaiacdfaaGreatJ35
import Derived.Test.YtembiemaiacdfaaGreatJ22
set_option maxRecDepth 10000
set_option maxHeartbeats 8000000
namespace Go.Proofs.YtembiemaiacdfaaGreat
open Go.RowKit
section
end
structure ud (k:List Pc) (a b:Nat):Prop where
 len:k.length ≤ a
 set:∀ p ∈ k,p.set.length ≤ 16 ∧ (p.set.flatMap Kn.runs).length ≤ b
theorem ud.mid {k:List Pc} {a b:Nat} (h:ud k a b) (ha:a * 16 ≤ 1000000) (hb:a * b ≤ 1000000):cJ k:=by
 have key:∀ l:List Pc,(∀ p ∈ l,p.set.length ≤ 16 ∧ (p.set.flatMap Kn.runs).length ≤ b) → (l.flatMap Pc.set).length ≤ l.length * 16 ∧ ((l.flatMap Pc.set).flatMap Kn.runs).length ≤ l.length * b:=by
   intro l
   induction l with
   | nil=>intro _;simp
   | cons p l ih=>
     intro h
     obtain ⟨h1,h2⟩:=h p List.mem_cons_self
     obtain ⟨i1,i2⟩:=ih (fun q hq=>h q (List.mem_cons_of_mem _ hq))
     rw [List.flatMap_cons,List.flatMap_append,List.length_append,List.length_append,List.length_cons,Nat.succ_mul,Nat.succ_mul]
     constructor <;> omega
 obtain ⟨h1,h2⟩:=key k h.set
 have h3:k.length * 16 ≤ a * 16:=Nat.mul_le_mul_right _ h.len
 have h4:k.length * b ≤ a * b:=Nat.mul_le_mul_right _ h.len
 have h5:=h.len
 exact ⟨by omega,by omega,by omega⟩
theorem ud.le {k:List Pc} {a b c d:Nat} (h:ud k a b) (h1:a ≤ c) (h2:b ≤ d):ud k c d:=⟨by have:=h.len;omega,fun p hp=>by have:=h.set p hp;omega⟩
theorem ud.get {k:List Pc} {a b:Nat} (h:ud k a b) (s:ByteArray):(cE k s).length ≤ 16 ∧ ((cE k s).flatMap Kn.runs).length ≤ b:=by
 have key:∀ l:List Pc,(∀ p ∈ l,p.set.length ≤ 16 ∧ (p.set.flatMap Kn.runs).length ≤ b) → (cE l s).length ≤ 16 ∧ ((cE l s).flatMap Kn.runs).length ≤ b:=by
   intro l
   induction l with
   | nil=>intro _;rw [kM];simp
   | cons p l ih=>
     intro h
     by_cases q:bR p.rg s = true
     · rw [gR q];exact h p List.mem_cons_self
     · rw [dH q];exact ih (fun q hq=>h q (List.mem_cons_of_mem _ hq))
 exact key k h.set
theorem wI {k:List Pc} {m:Int} (h:em k m = false):ud k m.toNat 256:=by
 obtain ⟨h1,h2⟩:=yj h
 refine ⟨by omega,fun p hp=>?_⟩
 obtain ⟨_,_,h3⟩:=h2 p hp
 obtain ⟨g1,g2⟩:=xY h3
 have key:∀ s:List Kn,(∀ x ∈ s,(x.runs.length:Int) ≤ 16) → (s.flatMap Kn.runs).length ≤ 16 * s.length:=by
   intro s
   induction s with
   | nil=>intro _;simp
   | cons x s ih=>
     intro h
     have h1:=h x List.mem_cons_self
     have h2:=ih (fun y hy=>h y (List.mem_cons_of_mem _ hy))
     rw [List.flatMap_cons,List.length_append,List.length_cons];omega
 have:=key _ g2
 omega
theorem ud.rest {k:List Pc} {a b:Nat} (h:ud k a b) (ok:bd k) (f:List Rg):ud (cY k f) (1 + 2 * (a + f.length)) b:=by
 obtain ⟨h1,h2⟩:=m7 k f
 refine ⟨?_,fun p hp=>?_⟩
 · have q1:=vO (jv k f) (j5 k f)
   have q2:=jr (bI k ++ f) [emB]
   have q3:=h.len
   have q4:(bI k).length = k.length:=by unfold bI;simp
   rw [List.length_append,q4,List.length_singleton] at q2
   unfold cY
   have q5:(j5 k f).length = (gD [emB] (bI k ++ f)).length:=rfl
   omega
 · obtain ⟨_,s,h3⟩:=qI h1 p hp
   rw [← h3,h2]
   unfold jv
   split
   · rw [gU ok];exact h.get s
   · simp
inductive CW:List Cnt → List Cnt → Prop
 | nil:CW [] []
 | same {c:Cnt} {l l':List Cnt} (k:CW l l'):CW (c :: l) (c :: l')
 | per {A B:PV} {l l':List Cnt} (h:Ct A B) (k:CW l l'):CW (.per A :: l) (.per B :: l')
theorem CW.len {l l':List Cnt} (h:CW l l'):l.length = l'.length:=by
 induction h with
 | nil=>rfl
 | same k ih=>simp [ih]
 | per h k ih=>simp [ih]
theorem CW.get {l l':List Cnt} (h:CW l l'):∀ (j:Nat) (c':Cnt),l'[j]? = some c' → ∃ c,l[j]? = some c ∧ (c = c' ∨ ∃ A B,c = .per A ∧ c' = .per B ∧ Ct A B):=by
 induction h with
 | nil=>intro j c h;simp at h
 | @same c l l' k ih=>
   intro j d hj
   cases j with
   | zero=>simp at hj;subst hj;exact ⟨c,rfl,.inl rfl⟩
   | succ j=>simpa using ih j d (by simpa using hj)
 | @per A B l l' h k ih=>
   intro j d hj
   cases j with
   | zero=>simp at hj;subst hj;exact ⟨_,rfl,.inr ⟨A,B,rfl,rfl,h⟩⟩
   | succ j=>simpa using ih j d (by simpa using hj)
theorem Fn.argsW {P:Program} {f:FuncId} {As Bs:List Cnt} {r:Ret} (h:Fn P f Bs r) (k:CW As Bs):Fn P f As r:=⟨h.ent,fun N0 w vs hN ha=>by
 refine h.run N0 w vs hN ⟨by rw [ha.1,k.len],fun i u c hi hj=>?_⟩
 obtain ⟨c0,q1,q2⟩:=k.get i c hj
 rcases q2 with rfl|⟨A,B,rfl,rfl,q3⟩
 · exact ha.2 i u c0 hi q1
 · exact q3 _ _ _ (ha.2 i u (.per A) hi q1)⟩
theorem ud.app {k l:List Pc} {a b c d:Nat} (h:ud k a b) (h':ud l c d):ud (k ++ l) (a + c) (max b d):=⟨by rw [List.length_append];have:=h.len;have:=h'.len;omega,fun p hp=>by
 rcases List.mem_append.1 hp with q|q
 · have:=h.set p q;omega
 · have:=h'.set p q;omega⟩
def oX (s:Sta) (F:List Rg) (K:List Pc):Int:=Jh (ko s) (decide (cG F)) (decide (bd K))
def cS (s:Sta) (F:List Rg) (K:List Pc) (lim:Int) (R:List Rg) (hs:Int → Int → Bool):List (List It) × List Pc × Int:=
 if oX s F K ≠ 0 then ([],[],oX s F K)
 else if fb lim (cD R hs (dI s.its F K)) = 0 then (jG lim (cD R hs (dI s.its F K)),cY s.know F,0)
 else ([],[],fb lim (cD R hs (dI s.its F K)))
theorem q8 {s:Sta} {F:List Rg} {K:List Pc}:oX s F K = 0 ↔ ko s = true ∧ cG F ∧ bd K:=by
 unfold oX Jh
 cases ko s
 · simp
 · by_cases h1:cG F <;> by_cases h2:bd K <;> simp [h1,h2]
theorem KB (l:List It) (F:List Rg) (K:List Pc):(KJ F l).filter (fun x=>!bZ K x.key x.rep x.cnt) = dI l F K:=by
 unfold KJ dI
 rw [List.filter_filter]
 exact List.filter_congr fun x _=>by rw [Bool.and_comm]
theorem lu (l:List It) (F:List Rg) (K:List Pc):(dI l F K).length ≤ l.length:=List.length_filter_le _ _
theorem Ai {l:List It} {F:List Rg} {K:List Pc} (h:mo l):mo (dI l F K):=fun x hx=>h x (List.mem_filter.1 hx).1
structure Jm (s:Sta) (F:List Rg) (K:List Pc) (lim:Int) (R:List Rg) (th:PV) (hs:Int → Int → Bool):Prop where
 st:Kl s
 sl:s.its.length ≤ 100000
 fl:F.length ≤ 12
 rl:R.length ≤ 12
 km:cJ K
 l1:-9223372036854775808 ≤ lim
 l2:lim ≤ 9223372036854775807
 th:∀ r c,Fn Tryz.prog 186 [.per th,oQ r c] (cU (hs r c))
section
variable {s:Sta} {F:List Rg} {K:List Pc} {lim:Int} {R:List Rg} {th:PV} {hs:Int → Int → Bool}
theorem Aj (h:Jm s F K lim R th hs):Fn Tryz.prog 47 [iV s,ly F K lim R th] (ig (oX s F K)):=by
 have hf:=h.fl
 exact KA s F K lim R th _ _ _ (wm s h.st) (jp F (by omega) (decide (cG F)) (by simp)) (j2 K (cZ h.km) (decide (bd K)) (by simp))
theorem oL (h:Jm s F K lim R th hs):Fn Tryz.prog 49 [iV s,ly F K lim R th] (.per (da (dI s.its F K))):=by
 have hl:=h.sl
 have hi:(KJ F s.its).length ≤ s.its.length:=List.length_filter_le _ _
 have:=(yY s F K lim R th (KJ F s.its) (fun x=>bZ K x.key x.rep x.cnt) (by omega) (Je s.its F h.st.keys (by omega) h.fl).frz (fun x hx=>Fh K x.key x.rep x.cnt (cZ h.km) (h.st.keys x (List.mem_filter.1 hx).1))).frz
 rw [KB] at this
 exact this
theorem Gz (h:Jm s F K lim R th hs):Fn Tryz.prog 48 [ly F K lim R th,.per (da (dI s.its F K))] (.tup2 (.per (bK 1 ((jG lim (cD R hs (dI s.its F K))).map fun c=>[da c]))) (ig (fb lim (cD R hs (dI s.its F K))))):=by
 have h1:=(Gx R h.rl th hs h.th (dI s.its F K) (Ai h.st.keys) (by have:=lu s.its F K;have:=h.sl;omega)).frz
 have hl:(cD R hs (dI s.its F K)).length ≤ 1000000000:=by
   rw [lr];have:=lu s.its F K;have:=h.sl;omega
 exact Ji F K lim R th _ _ _ _ h1 (wD lim _ hl h.l1 h.l2)
theorem pk (h:Jm s F K lim R th hs):Fn Tryz.prog 11 [iV s,ly F K lim R th] (.tup2 (.per (Af (cS s F K lim R hs).1 (cS s F K lim R hs).2.1)) (ig (cS s F K lim R hs).2.2)):=by
 unfold cS
 have a1:=Aj h
 by_cases c:oX s F K ≠ 0
 · rw [if_pos c]
   exact Gq s F K lim R th _ c a1
 · rw [if_neg c]
   have c:=Decidable.not_not.1 c
   rw [c] at a1
   obtain ⟨c1,c2,c3⟩:=q8.1 c
   have hf:=h.fl
   have:=Gr s F K lim R th _ _ _ (cY s.know F) a1 (oL h) (Gz h) (fun _=>(oI s.know F h.st.kmid c2 (by omega) h.st.kl (zY F c2 (by omega))).frz)
   by_cases e:fb lim (cD R hs (dI s.its F K)) = 0
   · rw [if_pos e] at this ⊢
     rw [e] at this
     exact this
   · rw [if_neg e] at this ⊢
     exact this
end
theorem Jn (a b:List (List It)) (hl:a.length ≤ 1000000000) (ha:∀ c ∈ a,c.length ≤ 1000000000):Fn Tryz.prog 22 [KK a,KK b] (cU (decide (a = b))):=by
 refine fi Tryz.func22 Tryz.ntmps22 ?_
 (refine wH ?_;(repeat' first|refine W2.mk ?_ ?_|refine W1.mk fun hc=>?_))
 · refine aO ?_
   exact af rfl (by symm;rw [decide_eq_false_iff_not];intro h;subst h;omega)
 have hlm:a.length = b.length:=by omega
 refine ah (fun k=>k ≤ a.length ∧ a.take k = b.take k) (fun k=>aJ [(0,KK a),(1,KK b),(4,bC false),(5,iC .i64 (k:Nat))] []) (fun k=>a.length - k) 0 ⟨Nat.zero_le _,rfl⟩ ?_ ?_
 · exact ab
 · rintro k ⟨hk,hpre⟩
   by_cases hlt:k < a.length
   · have hltm:k < b.length:=by omega
     have hak:=ha a[k] (List.getElem_mem hlt)
     (have kc1:=rU a[k] b[k] hak;refine wH ?_;(repeat' first|refine W2.mk ?_ ?_|refine W1.mk fun hc=>?_);all_goals clear kc1)
     · refine aO ?_
       exact af rfl (by symm;rw [decide_eq_false_iff_not];intro h;subst h;simp at *)
     · refine ⟨k + 1,⟨by omega,?_⟩,by omega,?_⟩
       · rw [List.take_succ_eq_append_getElem hlt,List.take_succ_eq_append_getElem hltm,hpre,(by simpa using hc:a[k] = b[k])]
       · exact ab
   · (refine wH ?_;(repeat' first|refine W2.mk ?_ ?_|refine W1.mk fun hc=>?_))
     refine aO ?_
     exact af rfl (by symm;rw [decide_eq_true_eq,← List.take_of_length_le (show a.length ≤ k by omega),hpre,List.take_of_length_le (by omega)])
theorem sD (limit:Int) (l:List It):(iv limit l).D.flatten ++ (iv limit l).c.getD [] = l:=by
 have key:∀ (m:List It) (s:Spl),(m.foldl (iG limit) s).D.flatten ++ (m.foldl (iG limit) s).c.getD [] = s.D.flatten ++ s.c.getD [] ++ m:=by
   intro m
   induction m with
   | nil=>intro s;simp
   | cons x m ih=>
     intro s
     rw [List.foldl_cons,ih]
     obtain ⟨D,c,left⟩:=s
     cases c with
     | none=>simp [iG]
     | some c=>
       unfold iG;simp only
       split <;> simp
 have:=key l ⟨[],none,-1⟩
 simpa [iv] using this
theorem pl {limit:Int} {l:List It} (h:fb limit l = 0):∀ x ∈ l,lM limit x:=by
 obtain ⟨m,hm,hall,hbad,_⟩:=t8 limit l
 by_cases hlt:m < l.length
 · rcases hbad hlt with ⟨_,hb⟩|⟨_,_,hb⟩ <;> omega
 · rw [List.take_of_length_le (by omega)] at hall;exact hall
theorem ue {limit:Int} {l:List It} (h:fb limit l = 0):jG limit l = jI (iv limit l):=by
 unfold jG jI;exact if_pos h
theorem sE {limit:Int} {l:List It} (h2:limit ≤ 9223372036854775807) (h:fb limit l = 0):(jG limit l).flatten = l:=by
 have hI:=Jd limit l h2 (pl h)
 have hF:=sD limit l
 rw [ue h]
 unfold jI
 generalize iv limit l = s at *
 obtain ⟨D,c,left⟩:=s
 cases c with
 | none=>have:=(hI.none1 rfl).2;simp only at this;subst this;simpa using hF
 | some c=>simpa using hF
theorem wJ {limit:Int} {l:List It} (h2:limit ≤ 9223372036854775807) (h:fb limit l = 0):(jG limit l).length ≤ max 1 l.length ∧ 1 ≤ (jG limit l).length:=by
 have hI:=Jd limit l h2 (pl h)
 rw [ue h]
 unfold jI
 generalize iv limit l = s at *
 obtain ⟨D,c,left⟩:=s
 cases c with
 | none=>simp;omega
 | some c=>have q4:=hI.len;have q5:=hI.ne c rfl;simp at q4 ⊢;omega
theorem GA {limit:Int} {l:List It} (h:fb limit l ≠ 0):jG limit l = []:=by unfold jG;rw [if_neg h]
structure Lm (limit:Int) (l:List It):Prop where
 flat:(jG limit l).flatten.length ≤ l.length
 len:(jG limit l).length ≤ l.length + 1
 each:∀ c ∈ jG limit l,c.length ≤ l.length
theorem Ln {limit:Int} {l:List It} (h2:limit ≤ 9223372036854775807):Lm limit l:=by
 by_cases h:fb limit l = 0
 · have h3:=sE h2 h
   have h4:=wJ h2 h
   refine ⟨by rw [h3];exact Nat.le_refl _,by omega,fun c hc=>?_⟩
   have:=(List.sublist_flatten_of_mem hc).length_le
   rw [h3] at this;exact this
 · rw [show Lm limit l ↔ _ from ⟨id,id⟩]
   have:=GA h
   exact ⟨by rw [this];simp,by rw [this];simp,by rw [this];simp⟩
section
end
end Go.Proofs.YtembiemaiacdfaaGreat
