/- Texts joined: Law33 StL PlE PlF Lw35 Fits34 Lw35b. -/
import Derived.Test.YtembiemaiacdfaaGreatJ33
import Derived.Test.YtembiemaiacdfaaGreatJ40
import Derived.Test.YtembiemaiacdfaaGreatJ10
import Derived.Test.YtembiemaiacdfaaGreatJ05
import Derived.Test.YtembiemaiacdfaaGreatJ38
import Derived.Test.YtembiemaiacdfaaGreatJ19
import Derived.Test.YtembiemaiacdfaaGreatJ35
import Derived.Test.YtembiemaiacdfaaGreatJ30
set_option maxRecDepth 10000
set_option maxHeartbeats 8000000
namespace Go.Proofs.YtembiemaiacdfaaGreat
open Go.RowKit
section
theorem uG (r c:Int):Fn Tryz.prog 186 [.per (aq (.pointer none)),lZ r c] (bO false):=by
 refine fi Tryz.func186 Tryz.ntmps186 ?_
 (refine w0 ?_;(repeat' first|refine W2.mk ?_ ?_|refine W1.mk fun hc=>?_))
 refine aQ ?_
 exact af rfl rfl
end
def ji (s:Sta):Bool:=e8 s.flt 8 || (oQ s.its 24 || eI s.know 24)
section
theorem nH (s:Sta):Fn Tryz.prog 8 [cY s] (bO (ji s)):=by
 have a1:=p5 s.flt 8 (by decide)
 have a2:=B1 s.its 24 (by decide)
 have a3:=qB s.know 24 (by decide)
 unfold ji
 generalize e8 s.flt 8 = d1 at *
 generalize eI s.know 24 = d2 at *
 generalize oQ s.its 24 = d3 at *
 refine fi Tryz.func8 Tryz.ntmps8 ?_
 (have kc1:=a1;have kc2:=a2;have kc3:=a3;refine w0 ?_;(repeat' first|refine W2.mk ?_ ?_|refine W1.mk fun hc=>?_);all_goals clear kc3 kc2 kc1)
 all_goals
   refine aQ ?_
   refine af rfl ?_
   first|rfl|(simp [*];done)|(rw [Bool.eq_iff_iff];simp [*];done)|(rw [Bool.eq_iff_iff];simp [*];omega)
theorem Hh (s t:Sta) (h1:s.flt.length ≤ 1000000000) (h2:eV s.know) (h3:s.its.length ≤ 1000000000) (h:s = t):Fn Tryz.prog 32 [cY s,cY t] (bO true):=by
 subst h
 have a1:=ES s.flt s.flt h1
 have a2:=mw s.know s.know h2
 have a3:=B0 s.its s.its h3
 rw [decide_eq_true rfl] at a1 a2 a3
 clear h2
 refine fi Tryz.func32 Tryz.ntmps32 ?_
 (have kc1:=a1;have kc2:=a2;have kc3:=a3;refine w0 ?_;(repeat' first|refine W2.mk ?_ ?_|refine W1.mk fun hc=>?_);all_goals clear kc3 kc2 kc1)
 all_goals
   refine aQ ?_
   refine af rfl ?_
   first|rfl|(simp;done)
end
theorem Hi {l:List It} (h:oQ l 24 = false):l.length ≤ 24 ∧ jG l:=by
 unfold oQ at h
 rw [Bool.or_eq_false_iff,decide_eq_false_iff_not] at h
 refine ⟨by omega,fun x hx=>?_⟩
 have:=List.any_eq_false.1 h.2 x hx
 simp [J2] at this
 omega
theorem ln {l:List Rg} (h:e8 l 8 = false):l.length ≤ 8:=by
 unfold e8 at h
 rw [Bool.or_eq_false_iff,decide_eq_false_iff_not] at h
 omega
structure Hu (s:Sta):Prop where
 fl:s.flt.length ≤ 8
 il:s.its.length ≤ 24
 ik:jG s.its
 kw:oJ s.know 24 256
theorem xJ {s:Sta} (h:ji s = false):Hu s:=by
 unfold ji at h
 simp only [Bool.or_eq_false_iff] at h
 obtain ⟨h1,h2,h3⟩:=h
 obtain ⟨q2,q3⟩:=Hi h2
 exact ⟨ln h1,q2,q3,xC h3⟩
theorem Hu.st {s:Sta} (h:Hu s):Ds s:=by
 have h1:=h.fl
 have h2:=h.il
 have h3:=h.kw.len
 exact ⟨by omega,h.kw.mid (by decide) (by decide),by omega,by omega,h.ik⟩
abbrev zP (F:List Rg) (K:List Pc) (lim:Int) (R:List Rg) (bs:List Bool) (pr sd:Int):List PV:=[eB F,ff K,aq (.int .i64 lim),eB R,ct 1 (bs.map boolP),aq (.int .i64 pr),aq (.int .u64 sd)]
abbrev zQ (F:List Rg) (K:List Pc) (lim:Int) (R:List Rg) (b:List UInt8):List PV:=[eB F,ff K,aq (.int .i64 lim),eB R,p7 b]
abbrev jT (F:List Rg) (K:List Pc) (lim:Int) (R:List Rg) (b:List UInt8):Cnt:=.per (bP (zQ F K lim R b))
section
def nI (F:List Rg) (K:List Pc) (R:List Rg) (b:List UInt8):Bool:=e8 F 8 || (eI K 12 || (e8 R 8 || decide ((b.length:Int) > 600)))
theorem xK (F:List Rg) (K:List Pc) (lim:Int) (R:List Rg) (b:List UInt8):Fn Tryz.prog 14 [jT F K lim R b] (bO (nI F K R b)):=by
 have a1:=p5 F 8 (by decide)
 have a2:=qB K 12 (by decide)
 have a3:=p5 R 8 (by decide)
 unfold nI
 generalize e8 F 8 = d1 at *
 generalize eI K 12 = d2 at *
 generalize e8 R 8 = d3 at *
 refine fi Tryz.func14 Tryz.ntmps14 ?_
 (have kf1:=a1;have kc1:=a2;have kf2:=a3;refine w0 ?_;(repeat' first|refine W2.mk ?_ ?_|refine W1.mk fun hc=>?_);all_goals clear kf2 kc1 kf1)
 all_goals
   refine aQ ?_
   refine af rfl ?_
   first|rfl|(simp [*];done)|(rw [Bool.eq_iff_iff];simp [*];done)|(rw [Bool.eq_iff_iff];simp [*];omega)
theorem Hj (F:List Rg) (K:List Pc) (lim:Int) (R:List Rg) (b:List UInt8) (hb:b.length ≤ 1000000):∃ (th:PV) (bs:List Bool) (pr sd:Int) (hs:Int → Int → Bool),
   Fn Tryz.prog 15 [jT F K lim R b] (.tup2 (.per (bP (xt F K lim R th))) (.per (bP (zP F K lim R bs pr sd)))) ∧
   (∀ r c,Fn Tryz.prog 186 [.per th,lZ r c] (bO (hs r c))) ∧ (0 < bs.length → ∀ r c,Fn Tryz.prog 199 [.per (CV bs pr sd),lZ r c] (bO (hs r c))) ∧ (bs.length = 0 → ∀ r c,hs r c = false):=by
 have h2:=JF b hb 3
 cases hX:rc b with
 | mk x e=>
 rw [hX] at h2
 simp only at h2
 by_cases he:e = 0
 · subst he
   obtain ⟨bits,probes,row⟩:=x
   obtain ⟨ok,h1⟩:=zG b hb 3 hX
   obtain ⟨hbk,hl,b1,b2,p1,p2,hT⟩:=CX hX
   obtain ⟨n,rfl⟩:=Int.eq_ofNat_of_zero_le (show 0 ≤ bits by omega)
   rw [Int.toNat_natCast] at hl hT
   rw [show Kc (((n:Int),probes,row),0) 3 = CV (fJ n row) probes 3 from rfl] at h2
   refine ⟨_,fJ n row,probes,3,fun r c=>xe row n probes 3 r c,?_,fun r c=>K8 n probes 3 row ok r c,fun _ r c=>?_,fun h0=>?_⟩
   · clear ok hT
     refine fi Tryz.func15 Tryz.ntmps15 ?_
     (have kc1:=h1;have kc2:=h2;refine w0 ?_;(repeat' first|refine W2.mk ?_ ?_|refine W1.mk fun hc=>?_);all_goals clear kc2 kc1)
     refine j8 ?_ ?_
     · exact cq inferInstance inferInstance rfl rfl rfl rfl rfl rfl
     · exact cq inferInstance inferInstance rfl rfl rfl rfl rfl rfl
   · have h6:=K9 (fJ n row) probes 3 r c (by rw [ks];omega) (by rw [ks];omega) (by omega) p2
     rw [ks,zI (by omega)] at h6
     exact h6
   · rw [ks] at h0;omega
 · have h1:=zF b hb 3 hX he
   rw [show Kc (x,e) 3 = zblP by unfold Kc;rw [if_neg he]] at h2
   refine ⟨aq (.pointer none),[],0,0,fun _ _=>false,?_,uG,fun h0=>by simp at h0,fun _ _ _=>rfl⟩
   refine fi Tryz.func15 Tryz.ntmps15 ?_
   (have kc1:=h1;have kc2:=h2;refine w0 ?_;(repeat' first|refine W2.mk ?_ ?_|refine W1.mk fun hc=>?_);all_goals clear kc2 kc1)
   refine j8 ?_ ?_
   · exact cq inferInstance inferInstance rfl rfl rfl rfl rfl rfl
   · exact eX (cq inferInstance inferInstance rfl rfl rfl rfl rfl rfl) aI
end
section
variable {s:Sta} {F:List Rg} {K:List Pc} {lim:Int} {R:List Rg} {th:PV} {hs:Int → Int → Bool} {bs:List Bool} {pr sd:Int}
end
abbrev Lu:PV:=aq (.slice none 0 0)
abbrev JP:PV:=aq (.pointer none)
def ex35:Sta:=⟨1,[⟨emB,emB,true⟩],[],[],0⟩
def ex35x:It:=⟨⟨#[97]⟩,1,1,1,0,false,⟨#[120]⟩⟩
def ex35u:Sta:=⟨1,[⟨emB,emB,true⟩],[ex35x],dG ⟨#[97]⟩ 1 1,1⟩
theorem Lm:ef ex35 = true:=by decide +kernel
theorem zR:kq ex35 ⟨#[97]⟩ 0 ⟨#[120]⟩ = (ex35u,0):=by
 have h1:eu ⟨#[97]⟩ = true:=by decide
 have h2:bg ex35.flt ⟨#[97]⟩ = true:=by decide +kernel
 unfold kq
 rw [if_neg (by rw [Lm];simp),if_neg (by rw [h1];decide),if_neg (by rw [h2];simp),if_neg (by decide),if_neg (by decide)]
 have h3:lX ex35 ⟨#[97]⟩ 0 false ⟨#[120]⟩ = ex35x:=by decide +kernel
 rw [h3]
 unfold za
 have h4:ki (ex35.know ++ dG ex35x.key ex35x.rep ex35x.cnt) = dG ⟨#[97]⟩ 1 1:=FD (k:=dG ⟨#[97]⟩ 1 1) (lh (k:=⟨#[97]⟩) (r:=1) (c:=1) h1 (by decide)).1
 rw [h4]
 rfl
theorem nJ:ef ex35u = true:=by
 have:=uB (s:=ex35) (k:=⟨#[97]⟩) (prio:=0) (body:=⟨#[120]⟩) (by rw [zR])
 rw [zR] at this
 exact this.1
theorem Ln:iL ex35u ex35u.flt ex35u.know 50 [] (fun _ _=>false) = ([[]],ex35u.know,0):=by
 obtain ⟨_,_,_,c4,_,c6,c7,_⟩:=ei nJ
 have hu:dh ex35u.its ex35u.flt ex35u.know = []:=by
   unfold dh
   rw [List.filter_eq_nil_iff]
   intro x hx
   rw [((ei nJ).2.2.2.2.2.2.2.2.2 x hx).2];simp
 unfold iL
 rw [if_neg (by rw [zO.2 ⟨nJ,c4,c6⟩];simp),hu,c7]
 rfl
theorem Lo:iL ex35u ex35u.flt [] 50 [] (fun _ _=>false) = ([[ex35x]],ex35u.know,0):=by
 obtain ⟨_,_,_,c4,_,c6,c7,_⟩:=ei nJ
 have hu:dh ex35u.its ex35u.flt [] = [ex35x]:=by
   have h2:bg ex35.flt ⟨#[97]⟩ = true:=by decide +kernel
   unfold dh
   refine List.filter_eq_self.2 ?_
   intro x hx
   have hx:x = ex35x:=List.mem_singleton.1 hx
   subst hx
   rw [show bg ex35u.flt ex35x.key = true from h2];rfl
 have hq:o7 50 (fy [] (fun _ _=>false) [ex35x]) = [[ex35x]] ∧ iJ 50 (fy [] (fun _ _=>false) [ex35x]) = 0:=by decide +kernel
 unfold iL
 rw [if_neg (by rw [zO.2 ⟨nJ,c4,fv⟩];simp),hu,if_pos hq.2,hq.1,c7]
theorem Lp:Ds ex35:=⟨by decide,⟨by decide,by decide,by decide⟩,by decide,by decide,fun x hx=>by cases hx⟩
theorem uH:b0 (dG ⟨#[97]⟩ 1 1):=⟨by decide,by decide,by decide⟩
theorem Bl:Ds ex35u:=⟨by decide,uH,by decide,by decide,fun x hx=>by rw [List.mem_singleton.1 hx];decide⟩
section
theorem pC:Fn Tryz.prog 7 [] (bO true):=by
 have a1:=(Gy ex35 ⟨#[97]⟩ 0 ⟨#[120]⟩ Lp (by decide) (by decide) (by decide) (fun _ _=>uH)).argsW (As:=[.per (bP [aq (.int .i64 1),eB [⟨emB,emB,true⟩],Lu,Lu,aq (.int .i64 0)]),sC ⟨#[97]⟩,iC .i64 0,sC ⟨#[120]⟩]) (.per aI (.same (.same (.same .nil))))
 rw [zR] at a1
 have a2:=(uF (s:=ex35u) (F:=ex35u.flt) (K:=ex35u.know) (lim:=50) (R:=[]) (th:=JP) (hs:=fun _ _=>false) ⟨Bl,by decide,by decide,by decide,uH,by decide,by decide,uG⟩).argsW (As:=[cY ex35u,.per (bP [eB ex35u.flt,ff ex35u.know,aq (.int .i64 50),Lu,JP])]) (.same (.per aI .nil))
 rw [Ln] at a2
 have a3:=(uF (s:=ex35u) (F:=ex35u.flt) (K:=[]) (lim:=50) (R:=[]) (th:=JP) (hs:=fun _ _=>false) ⟨Bl,by decide,by decide,by decide,⟨by decide,by decide,by decide⟩,by decide,by decide,uG⟩).argsW (As:=[cY ex35u,.per (bP [eB ex35u.flt,Lu,aq (.int .i64 50),Lu,JP])]) (.same (.per aI .nil))
 rw [Lo] at a3
 have a4:=mw ex35u.know ex35u.know (bM uH)
 rw [decide_eq_true rfl] at a4
 dsimp only at a1 a2 a3
 generalize ex35u = u at *
 refine fi Tryz.func7 Tryz.ntmps7 ?_
 (have kc1:=a1;have kf1:=a2;have kf2:=a3;have kc2:=a4;refine w0 ?_;(repeat' first|refine W2.mk ?_ ?_|refine W1.mk fun hc=>?_);all_goals clear kc2 kf2 kf1 kc1)
 all_goals
   refine aQ ?_
   refine af rfl ?_
   first|rfl|(simp;done)
end
theorem oJ.ofm {k:List Pc} {a b:Nat} (h:oJ k a b) (ha:a ≤ 1000) (hb:b ≤ 1000):b0 k:=h.mid (by omega) (Nat.le_trans (Nat.mul_le_mul ha hb) (by decide))
theorem JQ {s t:Sta} (hs:Hu s) (ht:Hu t) (h1:ef s = true) (h2:ef t = true):Lj t (dh s.its t.flt t.know) (aR s.know t.flt):=by
 obtain ⟨_,_,_,_,_,c6,_⟩:=ei h1
 obtain ⟨_,_,_,_,_,d6,_⟩:=ei h2
 have hf:=ht.fl
 have w1:=(hs.kw.rest c6 t.flt).le (c:=65) (d:=256) (by omega) (Nat.le_refl _)
 have w2:=(w1.rest (dp _ _).1 t.flt).le (c:=200) (d:=256) (by omega) (Nat.le_refl _)
 have hu:=nG s.its t.flt t.know
 have hi:=hs.il
 exact ⟨ht.st,by omega,by omega,Bh hs.ik,by have:=ht.il;omega,w1.ofm (by decide) (by decide),by have:=w1.len;omega,fun _=>w2.ofm (by decide) (by decide),fun _=>by have:=w2.len;omega,fun _ _=>(ht.kw.app w2).ofm (by decide) (by decide)⟩
theorem Bm {l:List It} (h:l.all itR = true):jG l:=fun x hx=>by
 have:=List.all_eq_true.1 h x hx
 unfold itR eu at this
 simp only [Bool.and_eq_true,decide_eq_true_eq] at this
 omega
theorem Lq {s t:Sta} (hs:Hu s) (ht:Hu t) (h:(ej s t).2 = 0):Ds (ej s t).1 ∧ (ej s t).1.its.length ≤ 48:=by
 obtain ⟨h1,h2,h3,h4,h5,_,_⟩:=y9 h
 obtain ⟨_,_,_,_,_,c6,_⟩:=ei h1
 obtain ⟨_,_,_,_,_,d6,_⟩:=ei h2
 have hf:=ht.fl
 have w1:=(hs.kw.rest c6 t.flt).le (c:=65) (d:=256) (by omega) (Nat.le_refl _)
 have w2:=(ht.kw.join w1 d6 (dp _ _).1).le (c:=200) (d:=512) (by omega) (by omega)
 have q1:=lV [t.its ++ jU t.flt (dh s.its t.flt t.know)]
 have q2:=nG s.its t.flt t.know
 have q3:=Bf t.flt (dh s.its t.flt t.know)
 have q4:=hs.il
 have q5:=ht.il
 simp only [List.flatten_cons,List.flatten_nil,List.append_nil,List.length_append] at q1
 have ha:=Bm (mG [t.its ++ jU t.flt (dh s.its t.flt t.know)])
 rw [← h5] at q1 ha
 rw [← h4] at w2
 have hl:=w2.len
 exact ⟨⟨by rw [h3];omega,w2.ofm (by decide) (by decide),by omega,by omega,ha⟩,by omega⟩
section
end
theorem JR {F:List Rg} {K:List Pc} {R:List Rg} {b:List UInt8} (h:nI F K R b = false):F.length ≤ 8 ∧ oJ K 12 256 ∧ R.length ≤ 8 ∧ b.length ≤ 600:=by
 unfold nI at h
 simp only [Bool.or_eq_false_iff,decide_eq_false_iff_not] at h
 obtain ⟨h1,h2,h3,h4⟩:=h
 exact ⟨ln h1,xC h2,ln h3,by omega⟩
theorem Hk {s:Sta} {F:List Rg} {K:List Pc} {lim:Int} {R:List Rg} {hs:Int → Int → Bool} (h:(iL s F K lim R hs).2.2 = 0) :
   xH s F K = 0 ∧ iJ lim (fy R hs (dh s.its F K)) = 0 ∧ (iL s F K lim R hs).1 = o7 lim (fy R hs (dh s.its F K)) ∧ (iL s F K lim R hs).2.1 = aR s.know F:=by
 unfold iL at h ⊢
 by_cases c:xH s F K ≠ 0
 · rw [if_pos c] at h;exact absurd h c
 · rw [if_neg c] at h ⊢
   by_cases e:iJ lim (fy R hs (dh s.its F K)) = 0
   · rw [if_pos e];exact ⟨Decidable.not_not.1 c,e,rfl,rfl⟩
   · rw [if_neg e] at h;exact absurd h e
section
end
end Go.Proofs.YtembiemaiacdfaaGreat
