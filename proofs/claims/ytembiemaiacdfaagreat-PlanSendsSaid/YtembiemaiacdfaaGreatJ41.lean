/- Texts joined: Law33 StL PlE PlF Lw35 Fits34 Lw35b. -/
import Derived.Test.YtembiemaiacdfaaGreatJ33
import Derived.Test.YtembiemaiacdfaaGreatJ40
import Derived.Test.YtembiemaiacdfaaGreatJ10
import Derived.Test.YtembiemaiacdfaaGreatJ05
import Derived.Test.YtembiemaiacdfaaGreatJ38
import Derived.Test.YtembiemaiacdfaaGreatJ19
import Derived.Test.YtembiemaiacdfaaGreatJ35
import Derived.Test.YtembiemaiacdfaaGreatJ30
set_option maxRecDepth 10000
set_option maxHeartbeats 8000000
namespace Go.Proofs.YtembiemaiacdfaaGreat
open Go.RowKit
section
theorem uf (r c:Int):Fn Tryz.prog 186 [.per (ao (.pointer none)),oQ r c] (cU false):=by
 refine fi Tryz.func186 Tryz.ntmps186 ?_
 (refine w0 ?_;(repeat' first|refine W2.mk ?_ ?_|refine W1.mk fun hc=>?_))
 refine aO ?_
 exact af rfl rfl
end
def iW (s:Sta):Bool:=eF s.flt 8 || (oy s.its 24 || em s.know 24)
section
theorem nr (s:Sta):Fn Tryz.prog 8 [iV s] (cU (iW s)):=by
 have a1:=pS s.flt 8 (by decide)
 have a2:=A0 s.its 24 (by decide)
 have a3:=qq s.know 24 (by decide)
 unfold iW
 generalize eF s.flt 8 = d1 at *
 generalize em s.know 24 = d2 at *
 generalize oy s.its 24 = d3 at *
 refine fi Tryz.func8 Tryz.ntmps8 ?_
 (have kc1:=a1;have kc2:=a2;have kc3:=a3;refine w0 ?_;(repeat' first|refine W2.mk ?_ ?_|refine W1.mk fun hc=>?_);all_goals clear kc3 kc2 kc1)
 all_goals
   refine aO ?_
   refine af rfl ?_
   first|rfl|(simp [*];done)|(rw [Bool.eq_iff_iff];simp [*];done)|(rw [Bool.eq_iff_iff];simp [*];omega)
end
theorem GB {l:List It} (h:oy l 24 = false):l.length ≤ 24 ∧ mo l:=by
 unfold oy at h
 rw [Bool.or_eq_false_iff,decide_eq_false_iff_not] at h
 refine ⟨by omega,fun x hx=>?_⟩
 have:=List.any_eq_false.1 h.2 x hx
 simp [Jv] at this
 omega
theorem kX {l:List Rg} (h:eF l 8 = false):l.length ≤ 8:=by
 unfold eF at h
 rw [Bool.or_eq_false_iff,decide_eq_false_iff_not] at h
 omega
structure LW (s:Sta):Prop where
 fl:s.flt.length ≤ 8
 il:s.its.length ≤ 24
 ik:mo s.its
 kw:ud s.know 24 256
theorem wK {s:Sta} (h:iW s = false):LW s:=by
 unfold iW at h
 simp only [Bool.or_eq_false_iff] at h
 obtain ⟨h1,h2,h3⟩:=h
 obtain ⟨q2,q3⟩:=GB h2
 exact ⟨kX h1,q2,q3,wI h3⟩
theorem LW.st {s:Sta} (h:LW s):Kl s:=by
 have h1:=h.fl
 have h2:=h.il
 have h3:=h.kw.len
 exact ⟨by omega,h.kw.mid (by decide) (by decide),by omega,by omega,h.ik⟩
abbrev GC (F:List Rg) (K:List Pc) (lim:Int) (R:List Rg) (bs:List Bool) (pr sd:Int):List PV:=[ef F,ip K,ao (.int .i64 lim),ef R,bK 1 (bs.map boolP),ao (.int .i64 pr),ao (.int .u64 sd)]
abbrev lN (F:List Rg) (K:List Pc) (lim:Int) (R:List Rg) (bs:List Bool) (pr sd:Int):Cnt:=.per (bW (GC F K lim R bs pr sd))
abbrev ug (F:List Rg) (K:List Pc) (lim:Int) (R:List Rg) (b:List UInt8):List PV:=[ef F,ip K,ao (.int .i64 lim),ef R,pU b]
abbrev q9 (F:List Rg) (K:List Pc) (lim:Int) (R:List Rg) (b:List UInt8):Cnt:=.per (bW (ug F K lim R b))
section
theorem wL (s:Sta) (F:List Rg) (K:List Pc) (f g:It → Bool) (hl:s.its.length ≤ 1000000) (a1:∀ x ∈ s.its,Fn Tryz.prog 43 [db F,sC x.key] (cU (f x))) (a2:∀ x ∈ s.its,Fn Tryz.prog 44 [cQ K,sC x.key,oQ x.rep x.cnt] (cU (g x))) :
   Fn Tryz.prog 57 [iV s,.per (ef F),l9 K] (Bo (s.its.filter fun x=>f x && !g x)):=by
 generalize hT:(s.its.filter fun x=>f x && !g x) = T
 refine fi Tryz.func57 Tryz.ntmps57 ?_
 (refine w0 ?_;(repeat' first|refine W2.mk ?_ ?_|refine W1.mk fun hc=>?_))
 refine cc (bv 7 600 61 7 rfl rfl) ?_
 refine ah (X:=Nat × List It) (fun x=>x.1 ≤ s.its.length ∧ x.2.length ≤ x.1 ∧ x.2 ++ (s.its.drop x.1).filter (fun x=>f x && !g x) = T)
   (fun x=>aJ [(1,.per (ef F)),(2,l9 K),(3,.ptr 3 0 0),(7,.row 600 0),(8,iC .i64 (x.1:Nat))] [(3,.box 26 ((FF s).map Cnt.per)),(600,dW x.2)]) (fun x=>s.its.length - x.1) (0,[]) ⟨Nat.zero_le _,by simp,by simpa using hT⟩ ?_ ?_
 · exact ab
 · rintro ⟨i,ac⟩ ⟨h1,h2,h3⟩
   simp only at h1 h2 h3 ⊢
   by_cases hi:i < s.its.length
   · have c1:=a1 _ (List.getElem_mem hi)
     have c2:=a2 _ (List.getElem_mem hi)
     rw [List.drop_eq_getElem_cons hi,List.filter_cons] at h3
     clear a1 a2
     cases hf:f s.its[i] with
     | false=>
       rw [hf] at h3 c1
       (have kc1:=c1;have kc2:=c2;refine w0 ?_;(repeat' first|refine W2.mk ?_ ?_|refine W1.mk fun hc=>?_);all_goals clear kc2 kc1)
       refine ⟨(i + 1,ac),⟨by simp only;omega,by simp only;omega,by simpa using h3⟩,by simp only;omega,?_⟩
       exact ab
     | true=>
       cases hg:g s.its[i] with
       | true=>
         rw [hf,hg] at h3
         rw [hf] at c1
         rw [hg] at c2
         (have kc1:=c1;have kc2:=c2;refine w0 ?_;(repeat' first|refine W2.mk ?_ ?_|refine W1.mk fun hc=>?_);all_goals clear kc2 kc1)
         refine ⟨(i + 1,ac),⟨by simp only;omega,by simp only;omega,by simpa using h3⟩,by simp only;omega,?_⟩
         exact ab
       | false=>
         rw [hf,hg] at h3
         rw [hf] at c1
         rw [hg] at c2
         (have kc1:=c1;have kc2:=c2;refine w0 ?_;(repeat' first|refine W2.mk ?_ ?_|refine W1.mk fun hc=>?_);all_goals clear kc2 kc1)
         refine ⟨(i + 1,ac ++ [s.its[i]]),⟨by simp only;omega,by simp;omega,by simpa using h3⟩,by simp only;omega,an (aM 600 601) (an (aM 601 600) ?_)⟩
         exact ab
   · have h3:ac = T:=by rw [← h3,List.drop_of_length_le (by omega)];simp
     clear a1 a2
     (refine w0 ?_;(repeat' first|refine W2.mk ?_ ?_|refine W1.mk fun hc=>?_))
     refine aO ?_
     exact dx rfl rfl rfl (by rw [h3])
theorem Jo (s:Sta) (F:List Rg) (K:List Pc) (lim:Int) (R:List Rg) (bs:List Bool) (pr sd:Int) (r f k:Bool) (a1:Fn Tryz.prog 9 [iV s] (cU r)) (a2:Fn Tryz.prog 37 [db F] (cU f)) (a3:Fn Tryz.prog 39 [cQ K] (cU k)) :
   Fn Tryz.prog 24 [iV s,lN F K lim R bs pr sd] (ig (Jh r f k)):=by
 cases r <;> cases f <;> cases k
 all_goals
   refine fi Tryz.func24 Tryz.ntmps24 ?_
   (have kc1:=a1;have kc2:=a2;have kc3:=a3;refine w0 ?_;(repeat' first|refine W2.mk ?_ ?_|refine W1.mk fun hc=>?_);all_goals clear kc3 kc2 kc1)
   refine aO ?_
   exact az rfl rfl
theorem Cf (s:Sta) (F:List Rg) (K:List Pc) (lim:Int) (R:List Rg) (bs:List Bool) (pr sd:Int) (U:List It) (a1:Fn Tryz.prog 57 [iV s,.per (ef F),l9 K] (.per (da U))) :
   Fn Tryz.prog 17 [iV s,lN F K lim R bs pr sd] (.per (da U)):=by
 refine fi Tryz.func17 Tryz.ntmps17 ?_
 (have kc1:=a1;refine w0 ?_;(repeat' first|refine W2.mk ?_ ?_|refine W1.mk fun hc=>?_);all_goals clear kc1)
 refine aO ?_
 exact b0 rfl
theorem Cg (s:Sta) (F:List Rg) (K:List Pc) (lim:Int) (R:List Rg) (bs:List Bool) (pr sd:Int) (e:Int) (he:e ≠ 0) (a1:Fn Tryz.prog 24 [iV s,lN F K lim R bs pr sd] (ig e)) :
   Fn Tryz.prog 21 [iV s,lN F K lim R bs pr sd] (.tup3 (Lk []) (.per (ip [])) (ig e)):=by
 refine fi Tryz.func21 Tryz.ntmps21 ?_
 (have kc1:=a1;refine w0 ?_;(repeat' first|refine W2.mk ?_ ?_|refine W1.mk fun hc=>?_);all_goals clear kc1)
 refine ⟨by first|exact .inl rfl|exact .inr rfl,pA rfl ?_ ?_ ?_⟩
 · exact jz (b0 rfl) j8
 · exact jz (b0 rfl) j8
 · exact az rfl rfl
theorem Ch (s:Sta) (F:List Rg) (K:List Pc) (lim:Int) (R:List Rg) (bs:List Bool) (pr sd:Int) (U Q:List It) (B:List (List It)) (e:Int) (J:List Pc) (a1:Fn Tryz.prog 24 [iV s,lN F K lim R bs pr sd] (ig 0)) (a2:Fn Tryz.prog 17 [iV s,lN F K lim R bs pr sd] (.per (da U)))
   (a3:Fn Tryz.prog 61 [db R,.per (lx bs pr sd),dN U] (.per (da Q))) (a4:Fn Tryz.prog 60 [iC .i64 lim,Gk Q] (.tup2 (Lk B) (ig e))) (a5:e = 0 → Fn Tryz.prog 40 [cQ s.know,db F] (.per (ip J))) :
   Fn Tryz.prog 21 [iV s,lN F K lim R bs pr sd] (.tup3 (Lk (if e = 0 then B else [])) (.per (ip (if e = 0 then J else []))) (ig e)):=by
 by_cases he:e = 0
 · rw [if_pos he,if_pos he]
   subst he
   have a5:=a5 rfl
   refine fi Tryz.func21 Tryz.ntmps21 ?_
   (have kc1:=a1;have kc2:=a2;have kc3:=a3;have kc4:=a4;have kc5:=a5;refine w0 ?_;(repeat' first|refine W2.mk ?_ ?_|refine W1.mk fun hc=>?_);all_goals clear kc5 kc4 kc3 kc2 kc1)
   refine ⟨by first|exact .inl rfl|exact .inr rfl,pA rfl ?_ ?_ ?_⟩
   · exact b0 rfl
   · exact b0 rfl
   · exact az rfl rfl
 · rw [if_neg he,if_neg he]
   clear a5
   refine fi Tryz.func21 Tryz.ntmps21 ?_
   (have kc1:=a1;have kc2:=a2;have kc3:=a3;have kc4:=a4;refine w0 ?_;(repeat' first|refine W2.mk ?_ ?_|refine W1.mk fun hc=>?_);all_goals clear kc4 kc3 kc2 kc1)
   refine ⟨by first|exact .inl rfl|exact .inr rfl,pA rfl ?_ ?_ ?_⟩
   · exact jz (b0 rfl) j8
   · exact jz (b0 rfl) j8
   · exact az rfl rfl
theorem GD (s:Sta) (F:List Rg) (K:List Pc) (lim:Int) (R:List Rg) (th:PV) (e:Int) (U:List It) (a1:Fn Tryz.prog 47 [iV s,ly F K lim R th] (ig e)) (a2:e = 0 → Fn Tryz.prog 49 [iV s,ly F K lim R th] (.per (da U))) :
   Fn Tryz.prog 25 [iV s,ly F K lim R th] (.per (da (if e = 0 then U else []))):=by
 by_cases he:e = 0
 · rw [if_pos he]
   subst he
   have a2:=a2 rfl
   refine fi Tryz.func25 Tryz.ntmps25 ?_
   (have kc1:=a1;have kc2:=a2;refine w0 ?_;(repeat' first|refine W2.mk ?_ ?_|refine W1.mk fun hc=>?_);all_goals clear kc2 kc1)
   refine aO ?_
   exact b0 rfl
 · rw [if_neg he]
   clear a2
   refine fi Tryz.func25 Tryz.ntmps25 ?_
   (have kc1:=a1;refine w0 ?_;(repeat' first|refine W2.mk ?_ ?_|refine W1.mk fun hc=>?_);all_goals clear kc1)
   refine aO ?_
   exact jz (b0 rfl) j8
def iY (F:List Rg) (K:List Pc) (R:List Rg) (b:List UInt8):Bool:=eF F 8 || (em K 12 || (eF R 8 || decide ((b.length:Int) > 600)))
theorem nt (F:List Rg) (K:List Pc) (lim:Int) (R:List Rg) (b:List UInt8):Fn Tryz.prog 14 [q9 F K lim R b] (cU (iY F K R b)):=by
 have a1:=pS F 8 (by decide)
 have a2:=qq K 12 (by decide)
 have a3:=pS R 8 (by decide)
 unfold iY
 generalize eF F 8 = d1 at *
 generalize em K 12 = d2 at *
 generalize eF R 8 = d3 at *
 refine fi Tryz.func14 Tryz.ntmps14 ?_
 (have kf1:=a1;have kc1:=a2;have kf2:=a3;refine w0 ?_;(repeat' first|refine W2.mk ?_ ?_|refine W1.mk fun hc=>?_);all_goals clear kf2 kc1 kf1)
 all_goals
   refine aO ?_
   refine af rfl ?_
   first|rfl|(simp [*];done)|(rw [Bool.eq_iff_iff];simp [*];done)|(rw [Bool.eq_iff_iff];simp [*];omega)
theorem wM (F:List Rg) (K:List Pc) (lim:Int) (R:List Rg) (b:List UInt8) (hb:b.length ≤ 1000000):∃ (th:PV) (bs:List Bool) (pr sd:Int) (hs:Int → Int → Bool),
   Fn Tryz.prog 15 [q9 F K lim R b] (.tup2 (.per (bW (Gp F K lim R th))) (.per (bW (GC F K lim R bs pr sd)))) ∧
   (∀ r c,Fn Tryz.prog 186 [.per th,oQ r c] (cU (hs r c))) ∧ (0 < bs.length → ∀ r c,Fn Tryz.prog 199 [.per (lx bs pr sd),oQ r c] (cU (hs r c))) ∧ (bs.length = 0 → ∀ r c,hs r c = false):=by
 have h2:=Jc b hb 3
 cases hX:qR b with
 | mk x e=>
 rw [hX] at h2
 simp only at h2
 by_cases he:e = 0
 · subst he
   obtain ⟨bits,probes,row⟩:=x
   obtain ⟨ok,h1⟩:=yV b hb 3 hX
   obtain ⟨hbk,hl,b1,b2,p1,p2,hT⟩:=BU hX
   obtain ⟨n,rfl⟩:=Int.eq_ofNat_of_zero_le (show 0 ≤ bits by omega)
   rw [Int.toNat_natCast] at hl hT
   rw [show JD (((n:Int),probes,row),0) 3 = lx (fw n row) probes 3 from rfl] at h2
   refine ⟨_,fw n row,probes,3,fun r c=>wv row n probes 3 r c,?_,fun r c=>Kv n probes 3 row ok r c,fun _ r c=>?_,fun h0=>?_⟩
   · clear ok hT
     refine fi Tryz.func15 Tryz.ntmps15 ?_
     (have kc1:=h1;have kc2:=h2;refine w0 ?_;(repeat' first|refine W2.mk ?_ ?_|refine W1.mk fun hc=>?_);all_goals clear kc2 kc1)
     refine oO ?_ ?_
     · exact ec inferInstance inferInstance rfl rfl rfl rfl rfl rfl
     · exact ec inferInstance inferInstance rfl rfl rfl rfl rfl rfl
   · have h6:=Kw (fw n row) probes 3 r c (by rw [kc];omega) (by rw [kc];omega) (by omega) p2
     rw [kc,yX (by omega)] at h6
     exact h6
   · rw [kc] at h0;omega
 · have h1:=yU b hb 3 hX he
   rw [show JD (x,e) 3 = zblP by unfold JD;rw [if_neg he]] at h2
   refine ⟨ao (.pointer none),[],0,0,fun _ _=>false,?_,uf,fun h0=>by simp at h0,fun _ _ _=>rfl⟩
   refine fi Tryz.func15 Tryz.ntmps15 ?_
   (have kc1:=h1;have kc2:=h2;refine w0 ?_;(repeat' first|refine W2.mk ?_ ?_|refine W1.mk fun hc=>?_);all_goals clear kc2 kc1)
   refine oO ?_ ?_
   · exact ec inferInstance inferInstance rfl rfl rfl rfl rfl rfl
   · exact jz (ec inferInstance inferInstance rfl rfl rfl rfl rfl rfl) aI
end
section
variable {s:Sta} {F:List Rg} {K:List Pc} {lim:Int} {R:List Rg} {th:PV} {hs:Int → Int → Bool} {bs:List Bool} {pr sd:Int}
structure Ms (R:List Rg) (hs:Int → Int → Bool) (bs:List Bool) (pr sd:Int):Prop where
 q:0 < bs.length → ∀ r c,Fn Tryz.prog 199 [.per (lx bs pr sd),oQ r c] (cU (hs r c))
 z:bs.length = 0 → ∀ r c,hs r c = false
theorem wN (h:Jm s F K lim R th hs):Fn Tryz.prog 24 [iV s,lN F K lim R bs pr sd] (ig (oX s F K)):=by
 have hf:=h.fl
 exact Jo s F K lim R bs pr sd _ _ _ (Ce s h.st) (pR F (by omega) (decide (cG F)) (by simp)) (oD K (cZ h.km) (decide (bd K)) (by simp))
theorem mj (h:Jm s F K lim R th hs):Fn Tryz.prog 17 [iV s,lN F K lim R bs pr sd] (.per (da (dI s.its F K))):=by
 have hl:=h.sl
 have hf:=h.fl
 exact Cf s F K lim R bs pr sd _ (wL s F K (fun x=>bn F x.key) (fun x=>bZ K x.key x.rep x.cnt) (by omega) (fun x hx=>mZ F x.key (by omega) (h.st.keys x hx)) (fun x hx=>zW K x.key x.rep x.cnt (cZ h.km) (h.st.keys x hx))).frz
theorem GF (h:Jm s F K lim R th hs) (k:Ms R hs bs pr sd):Fn Tryz.prog 21 [iV s,lN F K lim R bs pr sd] (.tup3 (Lk (cS s F K lim R hs).1) (.per (ip (cS s F K lim R hs).2.1)) (ig (cS s F K lim R hs).2.2)):=by
 unfold cS
 have a1:=wN (bs:=bs) (pr:=pr) (sd:=sd) h
 by_cases c:oX s F K ≠ 0
 · rw [if_pos c]
   exact Cg s F K lim R bs pr sd _ c a1
 · rw [if_neg c]
   have c:=Decidable.not_not.1 c
   rw [c] at a1
   obtain ⟨c1,c2,c3⟩:=q8.1 c
   have hf:=h.fl
   have hr:=h.rl
   have hl:=h.sl
   have hu:=lu s.its F K
   have kl:=Ai (F:=F) (K:=K) h.st.keys
   have hcl:∀ x ∈ dI s.its F K,Fn Tryz.prog 161 [db R,.per (lx bs pr sd),oP x] (ig (e8 R hs x)):=fun x hx=>B1 R (by omega) bs pr sd hs x (kl x hx) (fun h=>k.q h _ _) (fun h=>k.z h _ _)
   have h2:=Gi R bs pr sd hs (dI s.its F K) (by omega) (fun x hx y hy=>B2 R bs pr sd hs x y (kl x hx) (hcl x hx) (hcl y hy))
   have h3:=B7 lim (cD R hs (dI s.its F K)) (by rw [lr];omega) h.l2
   have:=Ch s F K lim R bs pr sd _ _ _ _ (cY s.know F) a1 (mj h) h2 h3 (fun _=>(nq s.know F h.st.kmid h.st.kl (by omega)).frz)
   by_cases e:fb lim (cD R hs (dI s.its F K)) = 0
   · rw [if_pos e] at this ⊢
     rw [if_pos e,e] at this
     exact this
   · rw [if_neg e] at this ⊢
     rw [if_neg e] at this
     exact this
end
theorem Ci {s:Sta} {F:List Rg} {K:List Pc} {lim:Int} {R:List Rg} {hs:Int → Int → Bool} (h2:lim ≤ 9223372036854775807):(cS s F K lim R hs).1.length ≤ s.its.length + 1 ∧ ∀ c ∈ (cS s F K lim R hs).1,c.length ≤ s.its.length:=by
 have hu:=lu s.its F K
 have hb:=Ln (l:=cD R hs (dI s.its F K)) h2
 obtain ⟨b1,b2,b3⟩:=hb
 rw [lr] at b2 b3
 unfold cS
 split
 · simp
 split
 · exact ⟨by simp only;omega,fun c hc=>by have:=b3 c hc;omega⟩
 · simp
abbrev Lo:PV:=ao (.slice none 0 0)
abbrev Jp:PV:=ao (.pointer none)
def ex35:Sta:=⟨1,[⟨emB,emB,true⟩],[],[],0⟩
def ex35x:It:=⟨⟨#[97]⟩,1,1,1,0,false,⟨#[120]⟩⟩
def ex35u:Sta:=⟨1,[⟨emB,emB,true⟩],[ex35x],jf ⟨#[97]⟩ 1 1,1⟩
theorem KC:ko ex35 = true:=by decide +kernel
theorem y4:j7 ex35 ⟨#[97]⟩ 0 ⟨#[120]⟩ = (ex35u,0):=by
 have h1:fy ⟨#[97]⟩ = true:=by decide
 have h2:bn ex35.flt ⟨#[97]⟩ = true:=by decide +kernel
 unfold j7
 rw [if_neg (by rw [KC];simp),if_neg (by rw [h1];decide),if_neg (by rw [h2];simp),if_neg (by decide),if_neg (by decide)]
 have h3:lw ex35 ⟨#[97]⟩ 0 false ⟨#[120]⟩ = ex35x:=by decide +kernel
 rw [h3]
 unfold yu
 have h4:wP (ex35.know ++ jf ex35x.key ex35x.rep ex35x.cnt) = jf ⟨#[97]⟩ 1 1:=EK (k:=jf ⟨#[97]⟩ 1 1) (qK (k:=⟨#[97]⟩) (r:=1) (c:=1) h1 (by decide)).1
 rw [h4]
 rfl
theorem nu:ko ex35u = true:=by
 have:=tX (s:=ex35) (k:=⟨#[97]⟩) (prio:=0) (body:=⟨#[120]⟩) (by rw [y4])
 rw [y4] at this
 exact this.1
theorem KD:cS ex35u ex35u.flt ex35u.know 50 [] (fun _ _=>false) = ([[]],ex35u.know,0):=by
 obtain ⟨_,_,_,c4,_,c6,c7,_⟩:=j9 nu
 have hu:dI ex35u.its ex35u.flt ex35u.know = []:=by
   unfold dI
   rw [List.filter_eq_nil_iff]
   intro x hx
   rw [((j9 nu).2.2.2.2.2.2.2.2.2 x hx).2];simp
 unfold cS
 rw [if_neg (by rw [q8.2 ⟨nu,c4,c6⟩];simp),hu,c7]
 rfl
theorem KE:cS ex35u ex35u.flt [] 50 [] (fun _ _=>false) = ([[ex35x]],ex35u.know,0):=by
 obtain ⟨_,_,_,c4,_,c6,c7,_⟩:=j9 nu
 have hu:dI ex35u.its ex35u.flt [] = [ex35x]:=by
   have h2:bn ex35.flt ⟨#[97]⟩ = true:=by decide +kernel
   unfold dI
   refine List.filter_eq_self.2 ?_
   intro x hx
   have hx:x = ex35x:=List.mem_singleton.1 hx
   subst hx
   rw [show bn ex35u.flt ex35x.key = true from h2];rfl
 have hq:jG 50 (cD [] (fun _ _=>false) [ex35x]) = [[ex35x]] ∧ fb 50 (cD [] (fun _ _=>false) [ex35x]) = 0:=by decide +kernel
 unfold cS
 rw [if_neg (by rw [q8.2 ⟨nu,c4,ll⟩];simp),hu,if_pos hq.2,hq.1,c7]
theorem KF:Kl ex35:=⟨by decide,⟨by decide,by decide,by decide⟩,by decide,by decide,fun x hx=>by cases hx⟩
theorem uh:cJ (jf ⟨#[97]⟩ 1 1):=⟨by decide,by decide,by decide⟩
theorem Al:Kl ex35u:=⟨by decide,uh,by decide,by decide,fun x hx=>by rw [List.mem_singleton.1 hx];decide⟩
section
theorem pm:Fn Tryz.prog 7 [] (cU true):=by
 have a1:=(FR ex35 ⟨#[97]⟩ 0 ⟨#[120]⟩ KF (by decide) (by decide) (by decide) (fun _ _=>uh)).argsW (As:=[.per (bW [ao (.int .i64 1),ef [⟨emB,emB,true⟩],Lo,Lo,ao (.int .i64 0)]),sC ⟨#[97]⟩,iC .i64 0,sC ⟨#[120]⟩]) (.per aI (.same (.same (.same .nil))))
 rw [y4] at a1
 have a2:=(pk (s:=ex35u) (F:=ex35u.flt) (K:=ex35u.know) (lim:=50) (R:=[]) (th:=Jp) (hs:=fun _ _=>false) ⟨Al,by decide,by decide,by decide,uh,by decide,by decide,uf⟩).argsW (As:=[iV ex35u,.per (bW [ef ex35u.flt,ip ex35u.know,ao (.int .i64 50),Lo,Jp])]) (.same (.per aI .nil))
 rw [KD] at a2
 have a3:=(pk (s:=ex35u) (F:=ex35u.flt) (K:=[]) (lim:=50) (R:=[]) (th:=Jp) (hs:=fun _ _=>false) ⟨Al,by decide,by decide,by decide,⟨by decide,by decide,by decide⟩,by decide,by decide,uf⟩).argsW (As:=[iV ex35u,.per (bW [ef ex35u.flt,Lo,ao (.int .i64 50),Lo,Jp])]) (.same (.per aI .nil))
 rw [KE] at a3
 have a4:=mb ex35u.know ex35u.know (cZ uh)
 rw [decide_eq_true rfl] at a4
 dsimp only at a1 a2 a3
 generalize ex35u = u at *
 refine fi Tryz.func7 Tryz.ntmps7 ?_
 (have kc1:=a1;have kf1:=a2;have kf2:=a3;have kc2:=a4;refine w0 ?_;(repeat' first|refine W2.mk ?_ ?_|refine W1.mk fun hc=>?_);all_goals clear kc2 kf2 kf1 kc1)
 all_goals
   refine aO ?_
   refine af rfl ?_
   first|rfl|(simp;done)
end
theorem ud.ofm {k:List Pc} {a b:Nat} (h:ud k a b) (ha:a ≤ 1000) (hb:b ≤ 1000):cJ k:=h.mid (by omega) (Nat.le_trans (Nat.mul_le_mul ha hb) (by decide))
section
end
structure GG (limit:Int) (s:Spl):Prop where
 old:∀ c ∈ s.D,(dh c:Int) ≤ limit ∧ c ≠ []
 now:∀ c,s.c = some c → c ≠ [] ∧ (dh c:Int) + s.left = limit ∧ 0 ≤ s.left
 adj:∀ (i:Nat) (a b:List It),(s.D ++ s.c.toList)[i]? = some a → (s.D ++ s.c.toList)[i + 1]? = some b → limit < (dh a:Int) + dh (b.take 1)
 none1:s.c = none → s.D = []
theorem Cj {limit:Int} {s:Spl} {x:It} (h:GG limit s) (hx:lM limit x):GG limit (iG limit s x):=by
 obtain ⟨D,c,left⟩:=s
 obtain ⟨q1,q2,q3,q4⟩:=h
 obtain ⟨hx1,hx2⟩:=hx
 cases c with
 | none=>
   have hD:=q4 rfl
   simp only at hD
   subst hD
   refine ⟨by simp [iG],?_,?_,by simp [iG]⟩
   · intro c hc;simp only [iG] at hc ⊢;cases hc;rw [ia];unfold mi at hx2 ⊢;exact ⟨by simp,by omega,by omega⟩
   · intro i a b ha hb;simp [iG] at hb
 | some c=>
   obtain ⟨r1,r2,r3⟩:=q2 c rfl
   simp only at r2 r3 q1
   simp only [Option.toList] at q3
   unfold iG
   simp only
   split
   · rename_i hgt
     refine ⟨?_,?_,?_,by simp⟩
     · intro d hd;simp only [List.mem_append,List.mem_singleton] at hd
       rcases hd with hd|rfl
       · exact q1 d hd
       · exact ⟨by omega,r1⟩
     · intro d hd;cases hd;rw [ia];unfold mi at hx2 ⊢;exact ⟨by simp,by simp only;omega,by simp only;omega⟩
     · intro i a b ha hb
       simp only [Option.toList] at ha hb
       have hib:i + 1 ≤ (D ++ [c]).length:=by
         have:=(List.getElem?_eq_some_iff.1 hb).1;simp at this ⊢;omega
       rw [List.getElem?_append_left (by omega)] at ha
       by_cases he:i + 1 < (D ++ [c]).length
       · rw [List.getElem?_append_left he] at hb
         exact q3 i a b ha hb
       · have he:i + 1 = (D ++ [c]).length:=by omega
         rw [he,List.getElem?_append_right (Nat.le_refl _)] at hb
         simp at hb;subst hb
         have hi:i = D.length:=by simp at he;omega
         rw [hi,List.getElem?_append_right (Nat.le_refl _)] at ha
         simp at ha;subst ha
         simp only [List.take_succ_cons,List.take_zero,ia]
         unfold mi at hgt;omega
   · rename_i hle
     refine ⟨q1,?_,?_,by simp⟩
     · intro d hd;cases hd;rw [kd];unfold mi at hle ⊢;exact ⟨by simp,by push_cast;omega,by simp only;omega⟩
     · intro i a b ha hb
       simp only [Option.toList] at ha hb
       have hib:i + 1 ≤ D.length:=by
         have:=(List.getElem?_eq_some_iff.1 hb).1;simp at this ⊢;omega
       rw [List.getElem?_append_left (by omega)] at ha
       by_cases he:i + 1 < D.length
       · rw [List.getElem?_append_left he] at hb
         exact q3 i a b (by rw [List.getElem?_append_left (by omega)];exact ha) (by rw [List.getElem?_append_left he];exact hb)
       · have he:i + 1 = D.length:=by omega
         rw [he,List.getElem?_append_right (Nat.le_refl _)] at hb
         simp at hb;subst hb
         have:=q3 i a c (by rw [List.getElem?_append_left (by omega)];exact ha) (by rw [he,List.getElem?_append_right (Nat.le_refl _)];simp)
         cases c with
         | nil=>exact absurd rfl r1
         | cons y c=>simpa using this
theorem LX (limit:Int) (l:List It) (hall:∀ x ∈ l,lM limit x):GG limit (iv limit l):=by
 have key:∀ (m:List It) (s:Spl),(∀ x ∈ m,lM limit x) → GG limit s → GG limit (m.foldl (iG limit) s):=by
   intro m
   induction m with
   | nil=>intro s _ h;exact h
   | cons x m ih=>intro s hm h;exact ih _ (fun y hy=>hm y (by simp [hy])) (Cj h (hm x (by simp)))
 exact key l _ hall ⟨by simp,by simp,by simp,by simp⟩
structure LY (limit:Int) (l:List It) (S:List (List It)):Prop where
 size:0 ≤ limit → ∀ c ∈ S,(dh c:Int) ≤ limit
 ne:∀ c ∈ S,c = [] → l = []
 adj:∀ (i:Nat) (a b:List It),S[i]? = some a → S[i + 1]? = some b → b ≠ [] ∧ limit < (dh a:Int) + dh (b.take 1)
theorem LZ {limit:Int} {l:List It} (h:fb limit l = 0):LY limit l (jG limit l):=by
 have hF:=LX limit l (pl h)
 have hl:=sD limit l
 rw [ue h]
 unfold jI
 generalize iv limit l = s at *
 obtain ⟨D,c,left⟩:=s
 obtain ⟨q1,q2,q3,q4⟩:=hF
 simp only at q1 q2 q3 hl
 cases c with
 | none=>
   have:=q4 rfl
   simp only at this
   subst this
   simp only [List.flatten_nil,Option.getD_none,List.append_nil] at hl
   refine ⟨fun h0 c hc=>?_,fun _ _ _=>hl.symm,fun i a b _ hb=>by simp at hb⟩
   simp only [List.mem_singleton] at hc
   subst hc
   simpa [dh] using h0
 | some c=>
   obtain ⟨r1,r2,r3⟩:=q2 c rfl
   simp only [Option.toList] at q3
   refine ⟨fun _ d hd=>?_,fun d hd he=>?_,fun i a b ha hb=>⟨?_,q3 i a b ha hb⟩⟩
   · simp only [List.mem_append,List.mem_singleton] at hd
     rcases hd with hd|rfl
     · exact (q1 d hd).1
     · omega
   · simp only [List.mem_append,List.mem_singleton] at hd
     rcases hd with hd|rfl
     · exact absurd he (q1 d hd).2
     · exact absurd he r1
   · have hd:=List.mem_of_getElem? hb
     simp only [List.mem_append,List.mem_singleton] at hd
     rcases hd with hd|rfl
     · exact (q1 b hd).2
     · exact r1
theorem Ck {x:It}:∀ (l:List It),l.Nodup → x ∈ l → (l.filter fun y=>xG y x).length = 1:=by
 intro l
 induction l with
 | nil=>intro _ h;cases h
 | cons y l ih=>
   intro h hx
   rw [List.nodup_cons] at h
   rw [List.filter_cons]
   by_cases e:y = x
   · rw [if_pos ((lg _ _).2 e),List.length_cons]
     have:(l.filter fun z=>xG z x) = []:=by
       rw [List.filter_eq_nil_iff]
       intro z hz q
       rw [(lg _ _).1 q,← e] at hz
       exact h.1 hz
     rw [this];rfl
   · rw [if_neg (fun q=>e ((lg _ _).1 q))]
     rcases List.mem_cons.1 hx with q|q
     · exact absurd q.symm e
     · exact ih h.2 q
theorem Cm {s:Sta} (h:ko s = true) (F:List Rg) (K:List Pc):(dI s.its F K).Nodup:=by
 have hu:=(tW h).2
 refine List.nodup_iff_pairwise_ne.2 (List.Pairwise.filter _ (hu.imp fun {x y} q e=>?_))
 rw [e,gI,(j4 _ _).2 rfl] at q
 omega
theorem Am {F:List Rg} {K:List Pc} {R:List Rg} {b:List UInt8} (h:iY F K R b = false):F.length ≤ 8 ∧ ud K 12 256 ∧ R.length ≤ 8 ∧ b.length ≤ 600:=by
 unfold iY at h
 simp only [Bool.or_eq_false_iff,decide_eq_false_iff_not] at h
 obtain ⟨h1,h2,h3,h4⟩:=h
 exact ⟨kX h1,wI h2,kX h3,by omega⟩
theorem y5 {s:Sta} {F:List Rg} {K:List Pc} {lim:Int} {R:List Rg} {hs:Int → Int → Bool} (hm:cJ s.know) (hF:F.length ≤ 1000):eZ (cS s F K lim R hs).2.1:=by
 unfold cS
 have hz:eZ []:=⟨by simp,fun p hp=>by cases hp⟩
 split
 · exact hz
 split
 · exact qJ hm (by omega)
 · exact hz
theorem Cn {s:Sta} {F:List Rg} {K:List Pc} {lim:Int} {R:List Rg} {hs:Int → Int → Bool} (h:(cS s F K lim R hs).2.2 ≠ 0):(cS s F K lim R hs).1 = []:=by
 unfold cS at h ⊢
 by_cases c:oX s F K ≠ 0
 · rw [if_pos c]
 · rw [if_neg c] at h ⊢
   by_cases e:fb lim (cD R hs (dI s.its F K)) = 0
   · rw [if_pos e] at h;exact absurd rfl h
   · rw [if_neg e]
theorem GH {s:Sta} {F:List Rg} {K:List Pc} {lim:Int} {R:List Rg} {hs:Int → Int → Bool} (h:(cS s F K lim R hs).2.2 = 0) :
   oX s F K = 0 ∧ fb lim (cD R hs (dI s.its F K)) = 0 ∧ (cS s F K lim R hs).1 = jG lim (cD R hs (dI s.its F K)) ∧ (cS s F K lim R hs).2.1 = cY s.know F:=by
 unfold cS at h ⊢
 by_cases c:oX s F K ≠ 0
 · rw [if_pos c] at h;exact absurd h c
 · rw [if_neg c] at h ⊢
   by_cases e:fb lim (cD R hs (dI s.its F K)) = 0
   · rw [if_pos e];exact ⟨Decidable.not_not.1 c,e,rfl,rfl⟩
   · rw [if_neg e] at h;exact absurd h e
section
theorem rB (s:Sta) (F:List Rg) (K:List Pc) (lim:Int) (R:List Rg) (b:List UInt8) (h:iW s = true ∨ iY F K R b = true):Fn Tryz.prog 5 [iV s,q9 F K lim R b] (cU true):=by
 have a0:=pm
 have a1:=nr s
 have a2:=nt F K lim R b
 cases h1:iW s <;> cases h2:iY F K R b
 case false.false=>rw [h1,h2] at h;simp at h
 all_goals
   rw [h1] at a1
   rw [h2] at a2
   clear h h1 h2
   refine fi Tryz.func5 Tryz.ntmps5 ?_
   (have kc1:=a0;have kc2:=a1;have kc3:=a2;refine w0 ?_;(repeat' first|refine W2.mk ?_ ?_|refine W1.mk fun hc=>?_);all_goals clear kc3 kc2 kc1)
   refine aO ?_
   exact af rfl rfl
theorem GI (s:Sta) (F:List Rg) (K:List Pc) (lim:Int) (R:List Rg) (b:List UInt8) (l1:-9223372036854775808 ≤ lim) (l2:lim ≤ 9223372036854775807):Fn Tryz.prog 5 [iV s,q9 F K lim R b] (cU true):=by
 by_cases hlg:iW s = true ∨ iY F K R b = true
 · exact rB s F K lim R b hlg
 have h1:iW s = false:=by cases h:iW s;rfl;exact absurd (.inl h) hlg
 have h2:iY F K R b = false:=by cases h:iY F K R b;rfl;exact absurd (.inr h) hlg
 have a0:=pm
 have a1:=nr s
 have a2:=nt F K lim R b
 rw [h1] at a1
 rw [h2] at a2
 have hs:=wK h1
 obtain ⟨f1,f2,f3,f4⟩:=Am h2
 obtain ⟨th,bs,pr,sd,hsf,a3,hP,hQ,hZ⟩:=wM F K lim R b (by omega)
 have il:=hs.il
 have hA:Jm s F K lim R th hsf:=⟨hs.st,by omega,by omega,by omega,f2.ofm (by decide) (by decide),l1,l2,hP⟩
 have a4:=pk hA
 have a5:=GF (bs:=bs) (pr:=pr) (sd:=sd) hA ⟨hQ,hZ⟩
 have a6:=wN (bs:=bs) (pr:=pr) (sd:=sd) hA
 have a7:=GD s F K lim R th _ _ (Aj hA) (fun _=>oL hA)
 have a8:=mj (bs:=bs) (pr:=pr) (sd:=sd) hA
 have ul:=lu s.its F K
 obtain ⟨ml,me⟩:=Ci (s:=s) (F:=F) (K:=K) (R:=R) (hs:=hsf) l2
 have a9:=Jn (cS s F K lim R hsf).1 (cS s F K lim R hsf).1 (by omega) (fun c hc=>by have:=me c hc;omega)
 have a10:=mb (cS s F K lim R hsf).2.1 (cS s F K lim R hsf).2.1 (y5 hs.st.kmid (by omega))
 have a11:=rU (dI s.its F K) (dI s.its F K) (by omega)
 rw [decide_eq_true rfl] at a9 a10 a11
 clear hlg h1 h2 hs f2 hP hQ hZ hA me
 generalize cS s F K lim R hsf = M at *
 obtain ⟨B,J,e⟩:=M
 generalize oX s F K = my at *
 generalize dI s.its F K = U at *
 dsimp only at a4 a5 a9 a10 ml
 by_cases hm:my = 0
 · rw [if_pos hm] at a7
   subst hm
   refine fi Tryz.func5 Tryz.ntmps5 ?_
   (have kc1:=a0;have kc2:=a1;have kc3:=a2;have kc4:=a3;have kc5:=a4;have kc6:=a5;have kc7:=a6;have kc8:=a7;have kc9:=a8;have kc10:=a9;have kc11:=a10;have kc12:=a11;refine w0 ?_;(repeat' first|refine W2.mk ?_ ?_|refine W1.mk fun hc=>?_);all_goals clear kc12 kc11 kc10 kc9 kc8 kc7 kc6 kc5 kc4 kc3 kc2 kc1)
   all_goals
     refine aO ?_
     refine af rfl ?_
     first|rfl|(simp;done)
 · rw [if_neg hm] at a7
   clear a8 a11
   refine fi Tryz.func5 Tryz.ntmps5 ?_
   (have kc1:=a0;have kc2:=a1;have kc3:=a2;have kc4:=a3;have kc5:=a4;have kc6:=a5;have kc7:=a6;have kc8:=a7;have kc9:=a9;have kc10:=a10;refine w0 ?_;(repeat' first|refine W2.mk ?_ ?_|refine W1.mk fun hc=>?_);all_goals clear kc10 kc9 kc8 kc7 kc6 kc5 kc4 kc3 kc2 kc1)
   all_goals
     refine aO ?_
     refine af rfl ?_
     first|rfl|(simp;done)
theorem rC (s:Sta) (F:List Rg) (K:List Pc) (lim:Int) (R:List Rg) (b:List UInt8) (h:iW s = true ∨ iY F K R b = true):Fn Tryz.prog 4 [iV s,q9 F K lim R b] (cU true):=by
 have a0:=pm
 have a1:=nr s
 have a2:=nt F K lim R b
 cases h1:iW s <;> cases h2:iY F K R b
 case false.false=>rw [h1,h2] at h;simp at h
 all_goals
   rw [h1] at a1
   rw [h2] at a2
   clear h h1 h2
   refine fi Tryz.func4 Tryz.ntmps4 ?_
   (have kc1:=a0;have kc2:=a1;have kc3:=a2;refine w0 ?_;(repeat' first|refine W2.mk ?_ ?_|refine W1.mk fun hc=>?_);all_goals clear kc3 kc2 kc1)
   refine aO ?_
   exact af rfl rfl
theorem GJ (s:Sta) (F:List Rg) (K:List Pc) (lim:Int) (R:List Rg) (b:List UInt8) (l1:-9223372036854775808 ≤ lim) (l2:lim ≤ 9223372036854775807):Fn Tryz.prog 4 [iV s,q9 F K lim R b] (cU true):=by
 by_cases hlg:iW s = true ∨ iY F K R b = true
 · exact rC s F K lim R b hlg
 have h1:iW s = false:=by cases h:iW s;rfl;exact absurd (.inl h) hlg
 have h2:iY F K R b = false:=by cases h:iY F K R b;rfl;exact absurd (.inr h) hlg
 have a0:=pm
 have a1:=nr s
 have a2:=nt F K lim R b
 rw [h1] at a1
 rw [h2] at a2
 have hs:=wK h1
 obtain ⟨f1,f2,f3,f4⟩:=Am h2
 obtain ⟨th,bs,pr,sd,hsf,a3,hP,hQ,hZ⟩:=wM F K lim R b (by omega)
 have il:=hs.il
 have hA:Jm s F K lim R th hsf:=⟨hs.st,by omega,by omega,by omega,f2.ofm (by decide) (by decide),l1,l2,hP⟩
 have a4:=pk hA
 by_cases he:(cS s F K lim R hsf).2.2 = 0
 · obtain ⟨m1,m2,m3,m4⟩:=GH he
   have hr:=(q8.1 m1).1
   have a5:=mj (bs:=bs) (pr:=pr) (sd:=sd) hA
   have ul:=lu s.its F K
   have hn:=Cm hr F K
   have sl:=lr R hsf (dI s.its F K)
   have so:=wz R hsf (dI s.its F K)
   have sf:=wA R hsf (dI s.its F K)
   have hfl:=sE l2 m2
   have hln:=(wJ l2 m2).2
   obtain ⟨e1,e2,e3⟩:=Ln (l:=cD R hsf (dI s.its F K)) l2
   obtain ⟨t1,t2,t3⟩:=LZ m2
   have hneg:lim < 0 → (cD R hsf (dI s.its F K)).length = 0:=fun q=>by
     rcases hT:cD R hsf (dI s.its F K) with _|⟨x,r⟩
     · rfl
     · have h0:0 ≤ mi x:=Int.natCast_nonneg _
       have:=(pl m2 x (by rw [hT];simp)).2
       omega
   rw [he,m3] at a4
   clear hlg h1 h2 hs f2 hP hQ hZ hA m1 m2 m3 m4 he
   generalize (cS s F K lim R hsf).2.1 = J at *
   have a6:=BZ (cD R hsf (dI s.its F K)) (by omega)
   rw [sf] at a6
   generalize cD R hsf (dI s.its F K) = T at *
   generalize dI s.its F K = U at *
   generalize jG lim T = B at *
   have a7:=(Gn B (by omega) (by rw [hfl];omega)).frz
   rw [hfl] at a7
   have hOne:∀ x ∈ U,Fn Tryz.prog 19 [dN T,oP x] (ig 1):=fun x hx=>by
     have:=B0 T (by omega) x
     rw [so,Ck U hn hx] at this
     exact this
   refine fi Tryz.func4 Tryz.ntmps4 ?_
   (have kc1:=a0;have kc2:=a1;have kc3:=a2;have kc4:=a3;have kc5:=a4;have kc6:=a5;have kc7:=a6;have kc8:=a7;refine w0 ?_;(repeat' first|refine W2.mk ?_ ?_|refine W1.mk fun hc=>?_);all_goals clear kc8 kc7 kc6 kc5 kc4 kc3 kc2 kc1)
   clear a0 a1 a2 a3 a4 a5 a6 a7
   refine ah (X:=Nat) (fun i=>i ≤ U.length) (fun i=>aJ [(3,.ptr 3 0 0),(7,.ptr 7 0 0),(9,.per (da T)),(56,.per (da U)),(57,iC .i64 (U.length:Nat)),(58,iC .i64 (i:Nat))]
     [(3,.box 45 ((ug F K lim R b).map Cnt.per)),(7,.box 33 [.per (bK 1 (B.map fun c=>[da c])),l9 J])]) (fun i=>U.length - i) 0 (Nat.zero_le _) ?_ ?_
   · exact ab
   · rintro i hi
     by_cases hlt:i < U.length
     · have k1:=hOne _ (List.getElem_mem hlt)
       clear hOne
       (have kc1:=k1;refine w0 ?_;(repeat' first|refine W2.mk ?_ ?_|refine W1.mk fun hc=>?_);all_goals clear kc1)
       refine ⟨i + 1,by omega,by omega,?_⟩
       exact ab
     · clear hOne
       (refine w0 ?_;(repeat' first|refine W2.mk ?_ ?_|refine W1.mk fun hc=>?_))
       refine ah (X:=Nat) (fun i=>i ≤ B.length) (fun i=>aJ [(3,.ptr 3 0 0),(7,.ptr 7 0 0),(68,.per (bK 1 (B.map fun c=>[da c]))),(69,iC .i64 (B.length:Nat)),(70,iC .i64 (i:Nat))]
         [(3,.box 45 ((ug F K lim R b).map Cnt.per)),(7,.box 33 [.per (bK 1 (B.map fun c=>[da c])),l9 J])]) (fun i=>B.length - i) 0 (Nat.zero_le _) ?_ ?_
       · exact ab
       · rintro j hj
         by_cases hjl:j < B.length
         · have hm:=List.getElem_mem hjl
           have g3:=e3 _ hm
           have k2:=gy B[j] (by omega)
           have hb:((dh B[j]:Nat):Int) ≤ if lim > 0 then lim else 0:=by
             rcases Int.lt_or_le lim 0 with q|q
             · have h0:=hneg q
               rw [List.eq_nil_of_length_eq_zero (show B[j].length = 0 by omega)]
               show ((0:Nat):Int) ≤ _
               split <;> omega
             · have:=t1 q _ hm;split <;> omega
           generalize ((dh B[j]:Nat):Int) = z at *
           clear e1 e3 t1 t2 t3
           (have kc1:=k2;refine w0 ?_;(repeat' first|refine W2.mk ?_ ?_|refine W1.mk fun hc=>?_);all_goals clear kc1)
           refine ⟨j + 1,by omega,by omega,?_⟩
           exact ab
         · (refine w0 ?_;(repeat' first|refine W2.mk ?_ ?_|refine W1.mk fun hc=>?_))
           refine aO ?_
           exact af rfl (by simp;omega)
 · have hB:=Cn he
   rw [hB] at a4
   clear hlg h1 h2 hs f2 hP hQ hZ hA hB
   generalize (cS s F K lim R hsf).2.2 = e at *
   generalize (cS s F K lim R hsf).2.1 = J at *
   refine fi Tryz.func4 Tryz.ntmps4 ?_
   (have kc1:=a0;have kc2:=a1;have kc3:=a2;have kc4:=a3;have kc5:=a4;refine w0 ?_;(repeat' first|refine W2.mk ?_ ?_|refine W1.mk fun hc=>?_);all_goals clear kc5 kc4 kc3 kc2 kc1)
   refine aO ?_
   exact af rfl (by simp)
end
end Go.Proofs.YtembiemaiacdfaaGreat
