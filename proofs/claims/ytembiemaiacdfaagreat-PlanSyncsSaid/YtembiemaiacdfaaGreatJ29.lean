/- Texts joined: PlA SwT SwV SwK SwY. -/
import Derived.Test.YtembiemaiacdfaaGreatJ23
import Derived.Test.YtembiemaiacdfaaGreatJ28
import Derived.Test.YtembiemaiacdfaaGreatJ05
import Derived.Test.YtembiemaiacdfaaGreatJ27
set_option maxRecDepth 10000
set_option maxHeartbeats 8000000
namespace Go.Proofs.YtembiemaiacdfaaGreat
open Go.RowKit
theorem uz {c:Int} (h:1 ≤ c ∧ c ≤ 1099511627776):cK [⟨c,c⟩]:=fun i hi=>by
 intro hi'
 have:i = 0:=by simp at hi;omega
 subst this
 exact ⟨(bu _).2 ⟨by simp;omega,by simp,by simp;omega⟩,fun q=>by omega⟩
theorem zq {r c:Int} (h:cI r c = true):1 ≤ r ∧ r ≤ 16 ∧ 1 ≤ c ∧ c ≤ 1099511627776:=by
 unfold cI at h
 simp at h
 omega
theorem Jq {r c:Int} (h:cI r c = true) {q:Nat} (hq:r - 1 = (q:Int)):aX ofR 0 ((bj []).set q [⟨c,c⟩]) = [⟨r,[⟨c,c⟩]⟩]:=by
 have hv:=zq h
 have h1:=qk [] ⟨r,[⟨c,c⟩]⟩ (r:=q) (by omega) (by simp only;omega)
 rw [show aC [] q ++ [(⟨c,c⟩:Rn)] = [⟨c,c⟩] from rfl,List.nil_append] at h1
 rw [← h1]
 exact ia ((kh _ _).2 ⟨⟨hv.1,hv.2.1,by simp,uz hv.2.2⟩,fun q hq=>by simp at hq,eG⟩)
section
theorem Gl (c:Int) (h:1 ≤ c ∧ c ≤ 1099511627776):Fn Tryz.prog 206 [.per (jn []),vK [c]] (wk [⟨c,c⟩]):=by
 have h1:=(ml [] (by simp))
 have h2:=tU [⟨c,c⟩] (by simp)
 rw [tQ (uz h)] at h2
 refine fi Tryz.func206 Tryz.ntmps206 ?_
 (have kc1:=h1;refine w0 ?_;(repeat' first|refine W2.mk ?_ ?_|refine W1.mk fun hc=>?_);all_goals clear kc1)
 refine ck (aM 9 700) ?_
 refine ah (X:=Nat) (fun i=>i ≤ 1) (fun i=>aN [(5,.row 700 0),(10,vK [c]),(11,iC .i64 1),(12,iC .i64 (i:Nat))] [(700,.row 132 2 (([⟨c,c⟩]:List Rn).take i |>.map rnP))]) (fun i=>1 - i) 0 (Nat.zero_le _) ?_ ?_
 · exact ab
 · rintro i hi
   by_cases h0:i = 0
   · subst h0
     clear h1 h2
     (refine w0 ?_;(repeat' first|refine W2.mk ?_ ?_|refine W1.mk fun hc=>?_))
     refine ⟨1,by omega,by omega,ak (aM 700 701) (ak (aM 701 700) ?_)⟩
     exact ab
   · obtain rfl:i = 1:=by omega
     clear h1
     (have kc1:=h2;refine w0 ?_;(repeat' first|refine W2.mk ?_ ?_|refine W1.mk fun hc=>?_);all_goals clear kc1)
     refine aQ ?_
     exact cv rfl rfl rfl
theorem Jr (l:List Vn) (hl:l.length = 1) (r c:Int) (hr:l[0].1 = r) (hc0:l[0].2 = c) (h:cI r c = true):Fn Tryz.prog 181 [.per (aq (.slice none 0 0)),uy l] (kx [⟨r,[⟨c,c⟩]⟩]):=by
 have hv:=zq h
 have h1:=tT [] ⟨by simp,by simp⟩
 have h2:=eA l[0].1 l[0].2
 rw [hr,hc0,h] at h2
 obtain ⟨q,hq⟩:∃ q:Nat,l[0].1 - 1 = (q:Nat):=⟨(r - 1).toNat,by omega⟩
 have h3:=Gl c hv.2.2
 have hT:=aY []
 have hset:=Jq h (hr ▸ hq)
 have hT2:((bj []).set q [⟨c,c⟩]).length = 16:=by rw [List.length_set];exact hT
 have h4:=Au ofR ((bj []).set q [⟨c,c⟩]) hT2 (fun l hl=>tU l (by
   rcases List.mem_or_eq_of_mem_set hl with q|q
   · unfold bj at q
     obtain ⟨j,_,rfl⟩:=List.mem_map.1 q
     simp [aC]
   · rw [q];simp))
 rw [hset] at h4
 have hg:(bj [])[q]? = some []:=by rw [bn [] (by omega)];rfl
 generalize bj [] = T at *
 have HJ:(gL T)[0 + q * 1]? = some (.per (jn [])):=by
   rw [Nat.zero_add,Nat.mul_one,List.getElem?_map,hg];rfl
 have HB:Nat.ble (0 + q * 1 + 1) (gL T).length = true:=Nat.ble_eq_true_of_le (by simp;omega)
 have HF:∀ (F:Cnt → Cnt) (d:Cnt),(∀ A,F (.per A) = .per A) → F d = .per (ct 2 ([⟨c,c⟩].map rnP)) → (gW (gL T) (0 + q * 1) [d]).map F = gL (T.set q [⟨c,c⟩]):=fun F d e1 e2=>by
   rw [Nat.zero_add,Nat.mul_one,vN _ _ _ (by simp;omega),List.map_set,e2,wn e1]
   unfold gL
   rw [List.map_set]
 refine fi Tryz.func181 Tryz.ntmps181 ?_
 (have kc1:=h1;refine w0 ?_;(repeat' (first|refine W2.mk ?_ ?_|refine W1.mk fun hc=>?_|((first|apply aD rfl|apply aF rfl|apply aG rfl|apply aH rfl);(focus (first|((apply az 6;(focus rfl);exact jt ⟨rfl,rfl⟩ rfl inferInstance rfl rfl rfl rfl rfl rfl (by simp [hT])))|(apply bx;(focus rfl);apply ag rfl rfl rfl rfl rfl;first|((apply az 6;(focus rfl);exact jt ⟨rfl,rfl⟩ rfl inferInstance rfl rfl rfl rfl rfl rfl (by simp [hT]))))));refine w0 ?_)));all_goals clear kc1)
 clear h1
 refine ah (X:=Nat) (fun i=>i ≤ 1) (fun i=>aN [(5,.ptr 5 0 0),(10,uy l),(11,iC .i64 1),(12,iC .i64 (i:Nat))] [(5,.box 214 (gL (if i = 0 then T else T.set q [⟨c,c⟩])))]) (fun i=>1 - i) 0 (Nat.zero_le _) ?_ ?_
 · (refine oL ?_ ?_;(focus ((repeat (first|exact iO.nil|(refine iO.cons ?_ ?_;rotate_left)));(all_goals try (first|rfl|(refine JZ ?_;first|omega|(simp;done)|(simp;omega))|(refine vy ?_;first|(simp;done)|(simp [*];done))))));(focus ((repeat (first|exact iP.nil|(refine iP.cons ?_ ?_;rotate_left)));(all_goals try (first|rfl|(refine tD ?_;(rw [List.map_append] <;> rfl);done)|(refine oM ?_;(rw [List.map_append] <;> rfl);done))))))
   rw [if_pos rfl]
   show Blk.box _ (List.map _ (gW _ 0 ((T.map jn).map .per))) = _
   rw [sq (by rw [List.length_map,List.length_map,hT];rfl),qm]
   exact congrArg _ (wn (fun _=>rfl))
 · rintro i hi
   by_cases h0:i = 0
   · subst h0
     rw [if_pos rfl]
     clear h4 hset
     subst hr;subst hc0
     (have kc1:=h2;have ko1:=h3;have ke1:=Lib.hid (hq);refine bq ?_;(repeat' (first|refine W2.mk ?_ ?_|refine W1.mk fun hc=>?_|((first|apply aD rfl|apply aF rfl|apply aG rfl|apply aH rfl);(focus (first|((apply az 5;(focus rfl);exact i7 ⟨rfl,rfl,rfl⟩ rfl inferInstance rfl rfl rfl HJ))|((apply az 6;(focus rfl);exact fW (c:=.row _ _) ⟨rfl,rfl⟩ rfl inferInstance rfl rfl rfl HB rfl (by first|exact cR (by first|exact ca rfl rfl|exact cb|exact cJ)|exact cS rfl|exact cT rfl rfl|exact cU rfl rfl|exact cw|exact cy|exact cz)))|(apply bx;(focus rfl);apply ag rfl rfl rfl rfl rfl;first|((apply az 5;(focus rfl);exact i7 ⟨rfl,rfl,rfl⟩ rfl inferInstance rfl rfl rfl HJ))|((apply az 6;(focus rfl);exact fW (c:=.row _ _) ⟨rfl,rfl⟩ rfl inferInstance rfl rfl rfl HB rfl (by first|exact cR (by first|exact ca rfl rfl|exact cb|exact cJ)|exact cS rfl|exact cT rfl rfl|exact cU rfl rfl|exact cw|exact cy|exact cz))))));refine bq ?_)));all_goals clear ke1 ko1 kc1)
     refine ⟨1,by omega,by omega,ak (iv 29 _ 132 2 rfl rfl) ?_⟩
     (refine oL ?_ ?_;(focus ((repeat (first|exact iO.nil|(refine iO.cons ?_ ?_;rotate_left)));(all_goals try (first|rfl|(refine JZ ?_;first|omega|(simp;done)|(simp;omega))|(refine vy ?_;first|(simp;done)|(simp [*];done))))));(focus ((repeat (first|exact iP.nil|(refine iP.cons ?_ ?_;rotate_left)));(all_goals try (first|rfl|(refine tD ?_;(rw [List.map_append] <;> rfl);done)|(refine oM ?_;(rw [List.map_append] <;> rfl);done))))))
     rw [if_neg (by omega)]
     show Blk.box _ (List.map _ (List.map _ _)) = _
     rw [List.map_map]
     exact congrArg (Blk.box _) (HF _ _ (fun _=>rfl) rfl)
   · obtain rfl:i = 1:=by omega
     rw [if_neg (by omega)]
     clear h2 h3
     have HP:=od hT2
     have HB':=qn hT2
     generalize T.set q [⟨c,c⟩] = T2 at *
     (have kc1:=h4;refine w0 ?_;(repeat' (first|refine W2.mk ?_ ?_|refine W1.mk fun hc=>?_|((first|apply aD rfl|apply aF rfl|apply aG rfl|apply aH rfl);(focus (first|((apply az 5;(focus rfl);exact f9 ⟨rfl,rfl,rfl⟩ rfl inferInstance inferInstance rfl rfl rfl rfl HB' HP))|(apply bx;(focus rfl);apply ag rfl rfl rfl rfl rfl;first|((apply az 5;(focus rfl);exact f9 ⟨rfl,rfl,rfl⟩ rfl inferInstance inferInstance rfl rfl rfl rfl HB' HP)))));refine w0 ?_)));all_goals clear kc1)
     refine aQ ?_
     exact cv rfl rfl rfl
theorem Gm (s:ByteArray) (hs:s.size ≤ 1000):Fn Tryz.prog 207 [sC s] (.per (aq (.string (s ++ ⟨#[0]⟩)))):=by
 have hz:(⟨#[0]⟩:ByteArray).size = 1:=rfl
 refine fi Tryz.func207 Tryz.ntmps207 ?_
 (refine w0 ?_;(repeat' first|refine W2.mk ?_ ?_|refine W1.mk fun hc=>?_))
 refine aQ ?_
 exact cu rfl
theorem Js (s:ByteArray) (hs:s.size ≤ 16):Fn Tryz.prog 182 [sC s] (.per (bP (rgP ⟨s,s ++ ⟨#[0]⟩,false⟩))):=by
 have h1:=Gm s (by omega)
 refine fi Tryz.func182 Tryz.ntmps182 ?_
 (have kc1:=h1;refine w0 ?_;(repeat' first|refine W2.mk ?_ ?_|refine W1.mk fun hc=>?_);all_goals clear kc1)
 refine aQ ?_
 exact cq inferInstance inferInstance rfl rfl rfl rfl rfl rfl
theorem K2 (k:List Pc) (s:ByteArray) (r c:Int) (hs:eu s = true) (h:cI r c = true) (hk:b0 (k ++ dG s r c)):Fn Tryz.prog 134 [gM k,sC s,uy [(r,c)]] (.per (ff (ki (k ++ dG s r c)))):=by
 have h1:=qT [(r,c)] (by simp)
 have e1:jh (jM ([(r,c)].filter K0)) = [(r,c)]:=by
   have:K0 (r,c) = true:=h
   simp only [List.filter_cons,this,List.filter_nil,if_true]
   rw [List.perm_singleton.1 (qS [(r,c)])];rfl
 rw [e1] at h1
 have h2:=(Jr [(r,c)] rfl r c rfl rfl h).frz
 have h3:=fY s
 rw [hs] at h3
 have hz:s.size ≤ 16:=by unfold eu at hs;simp at hs;omega
 have h4:=Js s hz
 have h5:=(AJ [k,dG s r c] (by simp) (by simpa using hk)).frz
 rw [show ([k,dG s r c]:List (List Pc)).flatten = k ++ dG s r c by simp] at h5
 generalize ki (k ++ dG s r c) = R at *
 unfold dG at h5
 rw [hs,h,if_pos (by rfl)] at h5
 clear hk e1
 refine fi Tryz.func134 Tryz.ntmps134 ?_
 (have kc1:=h1;have kc2:=h2;have kc3:=h3;have kc4:=h4;refine w0 ?_;(repeat' first|refine W2.mk ?_ ?_|refine W1.mk fun hc=>?_);all_goals clear kc4 kc3 kc2 kc1)
 refine js (bz 19 700 110 4 rfl rfl) ?_
 (refine w0 ?_;(repeat' first|refine W2.mk ?_ ?_|refine W1.mk fun hc=>?_))
 refine js (iv 700 _ 110 4 rfl rfl) ?_
 (have kc1:=h5;refine w0 ?_;(repeat' first|refine W2.mk ?_ ?_|refine W1.mk fun hc=>?_);all_goals clear kc1)
 refine aQ ?_
 exact cu rfl
end
theorem Gn {l:List Rn} (h:cK l):∀ r ∈ l,r.to ≤ ko l:=by
 have mono:∀ (d i:Nat) (hi:i + d < l.length),(l[i]'(by omega)).to ≤ (l[i + d]'hi).to:=by
   intro d
   induction d with
   | zero=>intro i hi;exact Int.le_refl _
   | succ d ih=>
     intro i hi
     have h1:=ih i (by omega)
     have h2:=h (i + d + 1) (by omega) (by omega)
     have h3:=(bu _).1 h2.1
     have h4:=h2.2 (by omega)
     have e:i + d + 1 - 1 = i + d:=by omega
     simp only [e] at h4
     have e2:i + (d + 1) = i + d + 1:=by omega
     simp only [e2]
     omega
 intro r hr
 obtain ⟨i,hi,rfl⟩:=List.getElem_of_mem hr
 have hl:ko l = (l[l.length - 1]'(by omega)).to:=by
   unfold ko
   rw [List.getLast?_eq_getElem?,List.getElem?_eq_getElem (by omega)]
 have:=mono (l.length - 1 - i) i (by omega)
 have e:i + (l.length - 1 - i) = l.length - 1:=by omega
 simp only [e] at this
 rw [hl];exact this
theorem wX {l:List Rn} {c:Int} (hc:0 ≤ c):ky l ≤ c ↔ ∀ n,dD l n → n ≤ c:=by
 unfold ky
 have hk:=mi l
 constructor
 · intro h n hn
   obtain ⟨r,h1,h2,h3,h4⟩:=(e9 l n).2 hn
   have:=Gn hk r h1
   omega
 · intro h
   by_cases e:ofR l = []
   · rw [e];exact hc
   · have hp:0 < (ofR l).length:=List.length_pos_iff.2 e
     have hl:ko (ofR l) = ((ofR l)[(ofR l).length - 1]'(by omega)).to:=by
       unfold ko
       rw [List.getLast?_eq_getElem?,List.getElem?_eq_getElem (by omega)]
     have h1:=(hk ((ofR l).length - 1) (by omega) (by omega)).1
     have h2:=(bu _).1 h1
     rw [hl]
     refine h _ ((e9 l _).1 ⟨_,List.getElem_mem (by omega),h1,by omega,Int.le_refl _⟩)
theorem lf {s:List Kn} {id c:Int} (hc:0 ≤ c):gS s id ≤ c ↔ (1 ≤ id ∧ id ≤ 16 → ∀ n,dD (aC s (id - 1).toNat) n → n ≤ c):=by
 unfold gS
 by_cases h:1 ≤ id ∧ id ≤ 16
 · rw [if_pos h,wX hc];exact ⟨fun q _=>q,fun q=>q h⟩
 · rw [if_neg h];exact ⟨fun _ q=>absurd q h,fun _=>hc⟩
theorem zr (id c:Int):∀ (k:List Pc) (n:Int),k.foldl (fun n p=>max n (gS p.set id)) n ≤ c ↔ n ≤ c ∧ ∀ p ∈ k,gS p.set id ≤ c:=by
 intro k
 induction k with
 | nil=>intro n;simp
 | cons p k ih=>
   intro n
   rw [List.foldl_cons,ih]
   constructor
   · rintro ⟨h1,h2⟩
     refine ⟨by omega,fun q hq=>?_⟩
     rcases List.mem_cons.1 hq with rfl|hq
     · omega
     · exact h2 q hq
   · rintro ⟨h1,h2⟩
     have:=h2 p List.mem_cons_self
     exact ⟨by omega,fun q hq=>h2 q (List.mem_cons_of_mem _ hq)⟩
theorem Gp {k:List Pc} {s:ByteArray} (h:cH k s ≠ []):∃ p ∈ k,p.set = cH k s:=by
 induction k with
 | nil=>exact absurd (jD s) h
 | cons p k ih=>
   by_cases q:bL p.rg s = true
   · exact ⟨p,List.mem_cons_self,(g9 q).symm⟩
   · rw [dN q] at h ⊢
     obtain ⟨r,h1,h2⟩:=ih h
     exact ⟨r,List.mem_cons_of_mem _ h1,h2⟩
theorem CI (id:Int):gS [] id = 0:=by
 unfold gS
 split
 · have:ky (aC [] (id - 1).toNat) ≤ 0:=(wX (Int.le_refl 0)).2 fun n h=>by
     unfold aC at h;exact absurd h (dm n)
   have:=FR (aC [] (id - 1).toNat)
   omega
 · rfl
theorem lg {k:List Pc} (hk:aO k) {id c:Int} (hc:0 ≤ c):ee k id ≤ c ↔ ∀ s,gS (cH k s) id ≤ c:=by
 unfold ee
 rw [zr]
 constructor
 · rintro ⟨_,h⟩ s
   by_cases e:cH k s = []
   · rw [e,CI];exact hc
   · obtain ⟨p,h1,h2⟩:=Gp e
     rw [← h2];exact h p h1
 · intro h
   refine ⟨hc,fun p hp=>?_⟩
   obtain ⟨_,s,h2⟩:=ld hk p hp
   rw [← h2];exact h s
theorem qV {a b:List Pc} (ha:aO a) (hb:aO b) {id c:Int} (hc:0 ≤ c) (h1:ee a id ≤ c) (h2:ee b id ≤ c):ee (ki (a ++ b)) id ≤ c:=by
 obtain ⟨h3,h4⟩:=fF (a ++ b)
 rw [lg h3 hc]
 intro s
 rw [h4,oy,lf hc]
 intro hid n hn
 rw [kj _ (by omega),e9,lP,gA,dA ha,dA hb] at hn
 rcases hn with hn|hn
 · exact (lf hc).1 ((lg ha hc).1 h1 s) hid n hn
 · exact (lf hc).1 ((lg hb hc).1 h2 s) hid n hn
theorem nr {k:List Pc} (hk:aO k) {f:List Rg}:aR k f = k ↔ ∀ s,bg f s = false → cH k s = []:=by
 obtain ⟨h1,h2⟩:=dp k f
 constructor
 · intro h s hs
   rw [← h,h2]
   unfold iH
   rw [hs];rfl
 · intro h
   refine iE h1 hk fun s=>?_
   rw [h2]
   unfold iH
   by_cases q:bg f s = true
   · rw [if_pos q,dA hk]
   · rw [if_neg q];exact (h s (by simpa using q)).symm
theorem sM {a b:List Pc} (ha:aO a) (hb:aO b) {f:List Rg} (h1:aR a f = a) (h2:aR b f = b):aR (ki (a ++ b)) f = ki (a ++ b):=by
 obtain ⟨h3,h4⟩:=fF (a ++ b)
 rw [nr h3]
 intro s hs
 rw [h4,oy,dA ha,dA hb,(nr ha).1 h1 s hs,(nr hb).1 h2 s hs]
 exact wI
theorem AZ {l:List It} (h:Up l):(l.map It.key).Pairwise (· < ·):=by
 rw [List.pairwise_map]
 refine h.imp fun {x y} q=>?_
 rw [gR] at q
 exact (eM _ _).1 q
theorem sN {s:Sta} {l:List It} {k:List Pc} (h:(dS s l k).2 = 0) :
   ((jU s.flt l).all fun x=>aZ s.know x.key x.rep x.cnt || aZ (aR k s.flt) x.key x.rep x.cnt) = true ∧ ee (aR k s.flt) s.id ≤ s.cnt ∧ dF (aV [s.its ++ jU s.flt l]) = true ∧ (aV [s.its ++ jU s.flt l]).length ≤ 4096:=by
 unfold dS at h
 by_cases c1:ef s = false
 · rw [if_pos c1] at h;simp at h
 rw [if_neg c1] at h
 by_cases c2:cX l = false ∨ ¬ aO k
 · rw [if_pos c2] at h;simp at h
 rw [if_neg c2] at h
 by_cases c3:(jU s.flt l).any (fun x=>!aZ s.know x.key x.rep x.cnt && !aZ (aR k s.flt) x.key x.rep x.cnt) = true
 · rw [if_pos c3] at h;simp at h
 rw [if_neg c3] at h
 by_cases c4:ee (aR k s.flt) s.id > s.cnt
 · rw [if_pos c4] at h;simp at h
 rw [if_neg c4] at h
 by_cases c5:dF (aV [s.its ++ jU s.flt l]) = false
 · rw [if_pos c5] at h;simp at h
 rw [if_neg c5] at h
 by_cases c6:(aV [s.its ++ jU s.flt l]).length > 4096
 · rw [if_pos c6] at h;simp at h
 refine ⟨?_,by omega,by simpa using c5,by omega⟩
 rw [List.all_eq_true]
 intro x hx
 cases hq:(aZ s.know x.key x.rep x.cnt || aZ (aR k s.flt) x.key x.rep x.cnt) with
 | true=>rfl
 | false=>
   exfalso
   apply c3
   rw [List.any_eq_true]
   rw [Bool.or_eq_false_iff] at hq
   exact ⟨x,hx,by rw [hq.1,hq.2];rfl⟩
theorem Gq {s:Sta} (h1:1 ≤ s.id ∧ s.id ≤ 16) (h2:0 ≤ s.cnt ∧ s.cnt ≤ 1099511627776) (h3:s.its.length ≤ 4096) (h4:cV s.flt) (h5:cX s.its = true) (h6:aO s.know) (h7:aR s.know s.flt = s.know) (h8:ee s.know s.id ≤ s.cnt) (h9:dF s.its = true) (h10:∀ x ∈ s.its,bg s.flt x.key = true ∧ aZ s.know x.key x.rep x.cnt = true):ef s = true:=by
 unfold ef
 rw [decide_eq_true h1,decide_eq_true h2,decide_eq_true h3,decide_eq_true h4,h5,decide_eq_true h6,decide_eq_true h7,decide_eq_true h8,h9]
 simp only [Bool.true_and,List.all_eq_true,Bool.and_eq_true]
 exact h10
theorem ei {s:Sta} (h:ef s = true):(1 ≤ s.id ∧ s.id ≤ 16) ∧ (0 ≤ s.cnt ∧ s.cnt ≤ 1099511627776) ∧ s.its.length ≤ 4096 ∧ cV s.flt ∧ cX s.its = true ∧ aO s.know ∧ aR s.know s.flt = s.know ∧ ee s.know s.id ≤ s.cnt ∧ dF s.its = true ∧ ∀ x ∈ s.its,bg s.flt x.key = true ∧ aZ s.know x.key x.rep x.cnt = true:=by
 unfold ef at h
 simp only [Bool.and_eq_true,decide_eq_true_eq,List.all_eq_true] at h
 obtain ⟨⟨⟨⟨⟨⟨⟨⟨⟨h1,h2⟩,h3⟩,h4⟩,h5⟩,h6⟩,h7⟩,h8⟩,h9⟩,h10⟩:=h
 exact ⟨h1,h2,h3,h4,h5,h6,h7,h8,h9,h10⟩
theorem wY {s:Sta} {l:List It} {k:List Pc} (h:(dS s l k).2 = 0):ef (dS s l k).1 = true:=by
 obtain ⟨a1,a2,a3,a4⟩:=nj h
 obtain ⟨b1,b2,b3,b4⟩:=sN h
 obtain ⟨c1,c2,c3,c4,c5,c6,c7,c8,c9,c10⟩:=ei a1
 obtain ⟨r1,_⟩:=dp k s.flt
 obtain ⟨m1,m2,_⟩:=bw [s.its ++ jU s.flt l]
 rw [a4]
 refine Gq c1 c2 b4 c4 ?_ (fF _).1 (sM c6 r1 c7 (k9 k s.flt)) (qV c6 r1 c2.1 c8 b2) b3 fun x hx=>?_
 · unfold cX
   rw [Bool.and_eq_true]
   refine ⟨?_,decide_eq_true (AZ m1)⟩
   rw [List.all_eq_true]
   exact fun x hx=>(List.mem_filter.1 (m2 x hx)).2
 · have hm:=(List.mem_filter.1 (m2 x hx)).1
   have hm:x ∈ s.its ++ jU s.flt l:=by simpa using hm
   simp only
   rw [ew c6 r1]
   rcases List.mem_append.1 hm with q|q
   · obtain ⟨q1,q2⟩:=c10 x q
     exact ⟨q1,by rw [q2];rfl⟩
   · have q1:=(List.mem_filter.1 q).2
     have q2:=List.all_eq_true.1 b1 x q
     exact ⟨q1,q2⟩
theorem qW {l:List It} (h:cX l = true):l.all itR = true:=by
 unfold cX at h
 rw [Bool.and_eq_true] at h
 exact h.1
theorem CJ:∀ (a s:List UInt8),cp a s ≤ 0 → cp s (a ++ [0]) < 0 → s = a:=by
 intro a
 induction a with
 | nil=>
   intro s _ h
   cases s with
   | nil=>rfl
   | cons c t=>
     exfalso
     have hc:¬ c.toNat < (0:UInt8).toNat:=by simp
     simp only [List.nil_append,cp] at h
     rw [if_neg hc] at h
     split at h
     · omega
     · cases t <;> simp [cp] at h
 | cons x a ih=>
   intro s h1 h2
   cases s with
   | nil=>simp [cp] at h1
   | cons c t=>
     simp only [List.cons_append,cp] at h1 h2
     by_cases q1:x.toNat < c.toNat
     · rw [if_neg (by omega),if_pos q1] at h2;omega
     · rw [if_neg q1] at h1
       by_cases q2:c.toNat < x.toNat
       · rw [if_pos q2] at h1;omega
       · rw [if_neg q2] at h1
         rw [if_neg q2,if_neg q1] at h2
         have e:c = x:=UInt8.toNat_inj.1 (by omega)
         rw [e,ih t h1 h2]
theorem sP:∀ (a:List UInt8),cp a (a ++ [0]) < 0:=by
 intro a
 induction a with
 | nil=>simp [cp]
 | cons x a ih=>
   simp only [List.cons_append,cp]
   rw [if_neg (by omega),if_neg (by omega)];exact ih
theorem app0 (k:ByteArray):(k ++ ⟨#[0]⟩:ByteArray).data.toList = k.data.toList ++ [0]:=by simp
theorem Ka {k:ByteArray} (h:eu k = true):eJ ⟨k,k ++ ⟨#[0]⟩,false⟩ = true:=by
 rw [bH]
 unfold eu at h
 simp at h
 have hs:(k ++ ⟨#[0]⟩:ByteArray).size = k.size + 1:=by rw [ByteArray.size_append];rfl
 refine ⟨by simp only;omega,by simp only;omega,?_⟩
 simp only [Bool.false_eq_true,if_false]
 unfold bG
 rw [app0]
 exact sP _
theorem wZ {k:ByteArray} (h:eu k = true) (s:ByteArray):bL ⟨k,k ++ ⟨#[0]⟩,false⟩ s = true ↔ s = k:=by
 rw [b9 (Ka h)]
 simp only [Bool.false_eq_true,false_or]
 constructor
 · rintro ⟨h1,h2⟩
   rw [← v8] at h1
   rw [← eM] at h2
   unfold bG at h1 h2
   rw [app0] at h2
   exact ByteArray.ext (Array.ext' (CJ _ _ h1 h2))
 · rintro rfl
   refine ⟨(v8 _ _).1 (by rw [qd];decide),?_⟩
   rw [← eM]
   unfold bG
   rw [app0]
   exact sP _
theorem lh {k:ByteArray} {r c:Int} (h1:eu k = true) (h2:cI r c = true):aO (dG k r c) ∧ ∀ s,cH (dG k r c) s = if s = k then [⟨r,[⟨c,c⟩]⟩] else []:=by
 unfold dG
 rw [h1,h2,if_pos (by rfl)]
 have hv:1 ≤ r ∧ r ≤ 16 ∧ 1 ≤ c ∧ c ≤ 1099511627776:=by
   unfold cI at h2
   simp at h2
   omega
 have hkn:bK [⟨r,[⟨c,c⟩]⟩]:=by
   rw [kh]
   refine ⟨⟨hv.1,hv.2.1,by simp,fun i hi=>?_⟩,fun q hq=>(by simp at hq),eG⟩
   intro hi'
   have:i = 0:=by simp at hi;omega
   subst this
   exact ⟨(bu _).2 ⟨by simp;omega,by simp,by simp;omega⟩,fun q=>by omega⟩
 refine ⟨(cn _ _).2 ⟨⟨Ka h1,by simp,hkn⟩,fun q hq=>(by simp at hq),fv⟩,fun s=>?_⟩
 by_cases e:s = k
 · rw [if_pos e,g9 ((wZ h1 s).2 e)]
 · rw [if_neg e,dN (fun w=>e ((wZ h1 s).1 w)),jD]
theorem py {r c:Int} (hr:1 ≤ r ∧ r ≤ 16) {j:Int} (hj:1 ≤ j):aC [⟨r,[⟨c,c⟩]⟩] (j - 1).toNat = if r = j then [⟨c,c⟩] else []:=by
 unfold aC
 simp only [List.flatMap_cons,List.flatMap_nil,List.append_nil]
 by_cases e:r = j
 · rw [if_pos e,if_pos (by omega)]
 · rw [if_neg e,if_neg (by omega)]
theorem Gr {k:ByteArray} {r c:Int} (h1:eu k = true) (h2:cI r c = true):ee (dG k r c) r ≤ c:=by
 obtain ⟨a1,a2⟩:=lh h1 h2
 have hv:1 ≤ r ∧ r ≤ 16 ∧ 1 ≤ c ∧ c ≤ 1099511627776:=by
   unfold cI at h2
   simp at h2
   omega
 rw [lg a1 (by omega)]
 intro s
 rw [a2,lf (by omega)]
 intro _ n hn
 split at hn
 · rw [py ⟨hv.1,hv.2.1⟩ hv.1,if_pos rfl,bm] at hn
   rcases hn with hn|hn
   · exact hn.2.2
   · exact absurd hn (dm n)
 · unfold aC at hn;exact absurd hn (dm n)
theorem Jt {k:ByteArray} {r c:Int} (h1:eu k = true) (h2:cI r c = true):aZ (dG k r c) k r c = true:=by
 obtain ⟨a1,a2⟩:=lh h1 h2
 have hv:1 ≤ r ∧ r ≤ 16 ∧ 1 ≤ c ∧ c ≤ 1099511627776:=by
   unfold cI at h2
   simp at h2
   omega
 rw [du a1,a2,if_pos rfl,fx]
 refine ⟨h2,?_⟩
 rw [py ⟨hv.1,hv.2.1⟩ hv.1,if_pos rfl,bm]
 exact .inl ⟨(bu _).2 ⟨by simp;omega,by simp,by simp;omega⟩,by simp,by simp⟩
theorem Gs {k:ByteArray} {r c:Int} {f:List Rg} (h1:eu k = true) (h2:cI r c = true) (hf:bg f k = true):aR (dG k r c) f = dG k r c:=by
 obtain ⟨a1,a2⟩:=lh h1 h2
 rw [nr a1]
 intro s hs
 rw [a2,if_neg (fun e=>by rw [e,hf] at hs;cases hs)]
theorem K3 {k:List Pc} (hk:aO k) {id cnt:Int} (hc:0 ≤ cnt) (h:ee k id ≤ cnt) {s:ByteArray} {c:Int} (hp:aZ k s id c = true):c ≤ cnt:=by
 rw [du hk,fx] at hp
 exact (lf hc).1 ((lg hk hc).1 h s) (ni hp.1) c hp.2
theorem oD {l:List It} {k:ByteArray} {y:It} (h:fA l k = some y):y ∈ l ∧ y.key = k:=by
 unfold fA at h
 exact ⟨List.mem_of_find?_eq_some h,by simpa using List.find?_some h⟩
theorem CK {l:List It} {k:ByteArray} (h:fA l k = none):∀ y ∈ l,y.key ≠ k:=by
 unfold fA at h
 rw [List.find?_eq_none] at h
 intro y hy
 simpa using h y hy
theorem Gu:∀ (l:List It) (x:It),(gN x l).length ≤ l.length + 1:=by
 intro l
 induction l with
 | nil=>intro x;rw [gN];simp
 | cons y l ih=>
   intro x
   rw [gN]
   split
   · have:=ih x;simp only [List.length_cons];omega
   · have:=List.length_filter_le (fun z:It=>decide (z.key ≠ x.key)) (y :: l)
     simp only [List.length_cons] at this ⊢;omega
theorem CL:∀ (l:List It) (x:It),(∃ y ∈ l,y.key = x.key) → (gN x l).length ≤ l.length:=by
 intro l
 induction l with
 | nil=>rintro x ⟨y,hy,_⟩;cases hy
 | cons y l ih=>
   rintro x ⟨z,hz,hk⟩
   rw [gN]
   split
   · rename_i hc
     rcases List.mem_cons.1 hz with rfl|hz
     · rw [hk,(lR _ _).2 rfl] at hc;omega
     · have:=ih x ⟨z,hz,hk⟩;simp only [List.length_cons];omega
   · have:((y :: l).filter fun z=>decide (z.key ≠ x.key)).length < (y :: l).length:=
       List.length_filter_lt_length_iff_exists.2 ⟨z,hz,by simp [hk]⟩
     simp only [List.length_cons] at this ⊢;omega
theorem uA (l:List It) (x:It):∀ z ∈ gN x l,z = x ∨ z ∈ l:=fun z hz=>(wJ l x z hz).imp id And.left
theorem zt:∀ (l:List It) (x:It),dF l = true → (∀ y ∈ l,verOf y ≠ verOf x) → dF (gN x l) = true:=by
 intro l
 induction l with
 | nil=>intro x _ _;rw [gN];unfold dF;simp
 | cons y l ih=>
   intro x h hn
   have h':=of_decide_eq_true h
   rw [List.map_cons,List.nodup_cons] at h'
   rw [gN]
   split
   · have i1:=of_decide_eq_true (ih x (decide_eq_true h'.2) (fun z hz=>hn z (List.mem_cons_of_mem _ hz)))
     refine decide_eq_true ?_
     rw [List.map_cons,List.nodup_cons]
     refine ⟨fun w=>?_,i1⟩
     obtain ⟨z,hz,e⟩:=List.mem_map.1 w
     rcases uA l x z hz with rfl|q
     · exact hn y List.mem_cons_self e.symm
     · exact h'.1 (by rw [← e];exact List.mem_map_of_mem q)
   · refine decide_eq_true ?_
     rw [List.map_cons,List.nodup_cons]
     refine ⟨fun w=>?_,?_⟩
     · obtain ⟨z,hz,e⟩:=List.mem_map.1 w
       exact hn z (List.mem_filter.1 hz).1 e
     · have hs:((y :: l).filter fun z=>decide (z.key ≠ x.key)).Sublist (y :: l):=List.filter_sublist
       exact (of_decide_eq_true h).sublist (hs.map verOf)
theorem zu {s:Sta} {x:It} (h:ef s = true) (hc:s.cnt ≠ 1099511627776) (hx:itR x = true) (hid:x.rep = s.id) (hcn:x.cnt = s.cnt + 1) (hf:bg s.flt x.key = true) (hl:(gN x s.its).length ≤ 4096):ef (za s x) = true:=by
 obtain ⟨c1,c2,c3,c4,c5,c6,c7,c8,c9,c10⟩:=ei h
 have hk:eu x.key = true:=by unfold itR at hx;simp only [Bool.and_eq_true] at hx;exact hx.1.1
 have hv:cI x.rep x.cnt = true:=by unfold itR at hx;simp only [Bool.and_eq_true] at hx;exact hx.1.2
 obtain ⟨r1,_⟩:=lh hk hv
 have hup:Up s.its:=by
   have:=(oz (im.1 c5))
   exact this
 have hall:=qW c5
 have hnew:∀ y ∈ s.its,verOf y ≠ verOf x:=fun y hy e=>by
   unfold verOf at e
   have e1:y.rep = s.id:=by rw [← hid];exact (Prod.mk.inj e).1
   have e2:y.cnt = s.cnt + 1:=by rw [← hcn];exact (Prod.mk.inj e).2
   have:=(c10 y hy).2
   rw [e1] at this
   have:=K3 c6 c2.1 c8 this
   omega
 unfold za
 refine Gq c1 (by simp only;omega) hl c4 ?_ (fF _).1 (sM c6 r1 c7 (Gs hk hv hf)) (qV c6 r1 (by simp only;omega) (by simp only;omega) ?_) (zt _ _ c9 hnew) fun z hz=>?_
 · unfold cX
   rw [Bool.and_eq_true]
   refine ⟨?_,decide_eq_true (AZ (AO _ _ hup))⟩
   rw [List.all_eq_true]
   intro z hz
   rcases uA _ _ z hz with rfl|q
   · exact hx
   · exact List.all_eq_true.1 hall z q
 · have:=Gr hk hv
   rw [hid] at this ⊢
   rw [hcn] at this ⊢
   exact this
 · simp only
   rw [ew c6 r1]
   rcases uA _ _ z hz with rfl|q
   · exact ⟨hf,by rw [Jt hk hv,Bool.or_true]⟩
   · exact ⟨(c10 z q).1,by rw [(c10 z q).2];rfl⟩
theorem qX {a b:List Pc} (ha:aO a) (hb:aO b) (h:∀ s r c,aZ a s r c = aZ b s r c):a = b:=by
 refine iE ha hb fun s=>qC (tY ha s) (tY hb s) fun r hr n=>?_
 have h1:=h s ((r:Int) + 1) n
 rw [du ha,du hb,Bool.eq_iff_iff,fx,fx,show ((r:Int) + 1 - 1).toNat = r by omega] at h1
 have hv:(1 ≤ n ∧ n ≤ 1099511627776) → cI ((r:Int) + 1) n = true:=fun q=>by unfold cI;simp;omega
 constructor
 · intro q;exact (h1.1 ⟨hv (qe q),q⟩).2
 · intro q;exact (h1.2 ⟨hv (qe q),q⟩).2
theorem sQ {k:ByteArray} {r c:Int} (h1:eu k = true) (h2:cI r c = true) (s:ByteArray) (r' c':Int):aZ (dG k r c) s r' c' = (decide (s = k) && (decide (r' = r) && decide (c' = c))):=by
 obtain ⟨a1,a2⟩:=lh h1 h2
 have hv:1 ≤ r ∧ r ≤ 16 ∧ 1 ≤ c ∧ c ≤ 1099511627776:=by
   unfold cI at h2
   simp at h2
   omega
 rw [du a1,a2,Bool.eq_iff_iff]
 by_cases e:s = k
 · rw [if_pos e,fx,decide_eq_true e,Bool.true_and,Bool.and_eq_true,decide_eq_true_eq,decide_eq_true_eq]
   constructor
   · rintro ⟨q1,q2⟩
     have:=ni q1
     rw [py ⟨hv.1,hv.2.1⟩ this.1] at q2
     split at q2
     · rename_i w
       rw [bm] at q2
       rcases q2 with q2|q2
       · exact ⟨w.symm,by have:=q2.2;simp only at this;omega⟩
       · exact absurd q2 (dm _)
     · exact absurd q2 (dm _)
   · rintro ⟨rfl,rfl⟩
     refine ⟨h2,?_⟩
     rw [py ⟨hv.1,hv.2.1⟩ hv.1,if_pos rfl,bm]
     exact .inl ⟨(bu _).2 ⟨by simp;omega,by simp,by simp;omega⟩,by simp,by simp⟩
 · rw [if_neg e,jJ,decide_eq_false e,Bool.false_and]
def jN (l:List It):List Pc:=l.foldl (fun k x=>ki (k ++ (if cI x.rep x.cnt then dG x.key x.rep x.cnt else []))) []
theorem zv (x:It):aO (if cI x.rep x.cnt then dG x.key x.rep x.cnt else []):=by
 split
 · rename_i h
   by_cases q:eu x.key = true
   · exact (lh q h).1
   · unfold dG;rw [Bool.eq_false_iff.2 q];simpa using fv
 · exact fv
def Kb (x:It) (s:ByteArray) (r c:Int):Bool:=decide (s = x.key) && (decide (r = x.rep) && decide (c = x.cnt))
theorem li {l:List It} (hl:l.all itR = true):aO (jN l) ∧ ∀ s r c,aZ (jN l) s r c = l.any fun x=>Kb x s r c:=by
 unfold jN
 have key:∀ (l:List It) (k:List Pc),l.all itR = true → aO k → aO (l.foldl (fun k x=>ki (k ++ (if cI x.rep x.cnt then dG x.key x.rep x.cnt else []))) k) ∧
     ∀ s r c,aZ (l.foldl (fun k x=>ki (k ++ (if cI x.rep x.cnt then dG x.key x.rep x.cnt else []))) k) s r c = (aZ k s r c || l.any fun x=>Kb x s r c):=by
   intro l
   induction l with
   | nil=>intro k _ hk;exact ⟨hk,fun s r c=>by simp⟩
   | cons x l ih=>
     intro k h hk
     rw [List.all_cons,Bool.and_eq_true] at h
     obtain ⟨i1,i2⟩:=ih (ki (k ++ (if cI x.rep x.cnt then dG x.key x.rep x.cnt else []))) h.2 (fF _).1
     refine ⟨i1,fun s r c=>?_⟩
     have hx:=h.1
     unfold itR at hx
     simp only [Bool.and_eq_true] at hx
     rw [List.foldl_cons,i2,ew hk (zv x),if_pos hx.1.2,sQ hx.1.1 hx.1.2,List.any_cons]
     unfold Kb
     rw [Bool.or_assoc]
 obtain ⟨h1,h2⟩:=key l [] hl fv
 exact ⟨h1,fun s r c=>by rw [h2];rfl⟩
theorem CM {l m:List It} (hu:Up l) (hp:m.Perm l) (k:ByteArray):bN k m = bN k l:=by
 have h1:=hu.filter k
 have h2:=(hp.filter fun x=>x.key == k)
 unfold bN
 rw [h1] at h2 ⊢
 cases h3:bN k l with
 | none=>
   rw [h3] at h2
   have:(m.filter fun x=>x.key == k) = []:=List.Perm.eq_nil (by simpa using h2)
   rw [this];rfl
 | some z=>
   rw [h3] at h2
   have:(m.filter fun x=>x.key == k) = [z]:=List.perm_singleton.1 (by simpa using h2)
   rw [this];rfl
theorem b7 {l:List It} (h:l.all itR = true):l.filter itR = l:=List.filter_eq_self.2 fun x hx=>List.all_eq_true.1 h x hx
theorem CN {b:List It} (hb:b.all itR = true):∀ k,bN k (aV [b]) = bN k b:=by
 intro k
 rw [(bw _).2.2,show ([b]:List (List It)).flatten = b by simp,b7 hb]
structure oE (t:Sta) (c:List It) (g:Sta):Prop where
 id:g.id = t.id
 flt:g.flt = t.flt
 cnt:g.cnt = t.cnt
 right:ef g = true
 look:∀ k,bN k g.its = bN k (t.its ++ c)
 has:∀ s r n,aZ g.know s r n = (aZ t.know s r n || c.any fun x=>Kb x s r n)
theorem CO {t:Sta} (h:ef t = true):oE t [] t:=⟨rfl,rfl,rfl,h,fun k=>by rw [List.append_nil],fun s r n=>by simp⟩
theorem A0 {f:List Rg} {l:List It} (h:∀ x ∈ l,bg f x.key = true):jU f l = l:=List.filter_eq_self.2 h
theorem iI {s:Sta} (h:ef s = true):s.its.all itR = true ∧ Up s.its:=by
 obtain ⟨_,_,_,_,c5,_⟩:=ei h
 exact ⟨qW c5,oz (im.1 c5)⟩
theorem CP {t g:Sta} {c b:List It} (hI:oE t c g) (hb:b.all itR = true) (hf:∀ x ∈ b,bg t.flt x.key = true) (h:(dS g (aV [b]) (jN b)).2 = 0):oE t (c ++ b) (dS g (aV [b]) (jN b)).1:=by
 have hR:=wY h
 obtain ⟨a1,a2,a3,a4⟩:=nj h
 obtain ⟨o1,o2⟩:=li hb
 have hmem:∀ x ∈ aV [b],x ∈ b:=fun x hx=>by
   have:=(List.mem_filter.1 ((bw [b]).2.1 x hx)).1
   simpa using this
 have hin:jU g.flt (aV [b]) = aV [b]:=A0 fun x hx=>by rw [hI.flt];exact hf x (hmem x hx)
 have hmr:(aV [b]).all itR = true:=List.all_eq_true.2 fun x hx=>(List.mem_filter.1 ((bw [b]).2.1 x hx)).2
 obtain ⟨g1,_⟩:=iI hI.right
 obtain ⟨p1,_⟩:=kp hI.right
 obtain ⟨r1,_⟩:=dp (jN b) g.flt
 rw [a4] at hR ⊢
 refine ⟨hI.id,hI.flt,hI.cnt,hR,fun k=>?_,fun s r n=>?_⟩
 · simp only
   rw [hin,(bw _).2.2]
   have f1:([g.its ++ aV [b]]:List (List It)).flatten.filter itR = g.its ++ aV [b]:=by
     rw [show ([g.its ++ aV [b]]:List (List It)).flatten = g.its ++ aV [b] by simp,List.filter_append,b7 g1,b7 hmr]
   rw [f1,cW,hI.look,CN hb,← cW,List.append_assoc]
 · simp only
   rw [ew p1 r1,hI.has,mz o1,o2,List.any_append,Bool.or_assoc]
   congr 2
   rw [Bool.eq_iff_iff,Bool.and_eq_true]
   constructor
   · exact fun q=>q.2
   · intro q
     refine ⟨?_,q⟩
     obtain ⟨x,hx,e⟩:=List.any_eq_true.1 q
     unfold Kb at e
     rw [Bool.and_eq_true,decide_eq_true_eq] at e
     rw [hI.flt,e.1];exact hf x hx
theorem Gv {s t g:Sta} {c:List It} (hI:oE t c g) (hs:ef s = true) (h:(ej s t).2 = 0) (hp:c.Perm (dh s.its t.flt t.know)):dS g [] (aR s.know t.flt) = ((ej s t).1,0):=by
 have hsy:ej s t = dS t (dh s.its t.flt t.know) (aR s.know t.flt):=by
   unfold ej at h ⊢
   by_cases q:ef s = false ∨ ef t = false
   · rw [if_pos q] at h;simp at h
   · rw [if_neg q]
 rw [hsy] at h ⊢
 obtain ⟨a1,a2,a3,a4⟩:=nj h
 obtain ⟨b1,b2,b3,b4⟩:=sN h
 obtain ⟨s1,s2⟩:=iI hs
 obtain ⟨t1,t2⟩:=iI a1
 obtain ⟨g1,g2⟩:=iI hI.right
 obtain ⟨p1,p2⟩:=kp hs
 obtain ⟨p3,_⟩:=kp a1
 obtain ⟨p4,_⟩:=kp hI.right
 obtain ⟨r1,_⟩:=dp (aR s.know t.flt) t.flt
 have hun:∀ x ∈ dh s.its t.flt t.know,x ∈ s.its ∧ bg t.flt x.key = true:=fun x hx=>by
   obtain ⟨q1,q2⟩:=List.mem_filter.1 hx
   rw [Bool.and_eq_true] at q2
   exact ⟨q1,q2.1⟩
 have hinU:jU t.flt (dh s.its t.flt t.know) = dh s.its t.flt t.know:=A0 fun x hx=>(hun x hx).2
 have hur:(dh s.its t.flt t.know).all itR = true:=List.all_eq_true.2 fun x hx=>List.all_eq_true.1 s1 x (hun x hx).1
 have hup:Up (dh s.its t.flt t.know):=List.Pairwise.filter _ s2
 rw [hinU] at a4 b3 b4
 -- the items
 have Bn:aV [g.its ++ jU g.flt []] = aV [t.its ++ dh s.its t.flt t.know]:=by
   refine Up.uniq (bw _).1 (bw _).1 fun k=>?_
   rw [(bw _).2.2,(bw _).2.2]
   have e0:jU g.flt [] = []:=rfl
   have f1:([g.its ++ jU g.flt []]:List (List It)).flatten.filter itR = g.its:=by
     rw [e0,show ([g.its ++ []]:List (List It)).flatten = g.its by simp,b7 g1]
   have f2:([t.its ++ dh s.its t.flt t.know]:List (List It)).flatten.filter itR = t.its ++ dh s.its t.flt t.know:=by
     rw [show ([t.its ++ dh s.its t.flt t.know]:List (List It)).flatten = t.its ++ dh s.its t.flt t.know by simp,List.filter_append,b7 t1,b7 hur]
   rw [f1,f2,hI.look,cW,cW,CM hup hp]
 -- what is known
 have hknow:ki (g.know ++ aR (aR s.know t.flt) g.flt) = ki (t.know ++ aR (aR s.know t.flt) t.flt):=by
   rw [hI.flt]
   refine qX (fF _).1 (fF _).1 fun k r n=>?_
   rw [ew p4 r1,ew p3 r1,hI.has,k9,mz p1,Bool.or_assoc]
   congr 1
   rw [Bool.eq_iff_iff,Bool.or_eq_true]
   refine ⟨fun q=>q.elim (fun q=>?_) id,.inr⟩
   obtain ⟨x,hx,e⟩:=List.any_eq_true.1 q
   obtain ⟨q1,q2⟩:=hun x (hp.mem_iff.1 hx)
   unfold Kb at e
   rw [Bool.and_eq_true,Bool.and_eq_true,decide_eq_true_eq,decide_eq_true_eq,decide_eq_true_eq] at e
   obtain ⟨rfl,rfl,rfl⟩:=e
   rw [q2,p2 x q1];rfl
 have hw:(dS t (dh s.its t.flt t.know) (aR s.know t.flt)) = ((dS t (dh s.its t.flt t.know) (aR s.know t.flt)).1,0):=by rw [← h]
 rw [hw,a4]
 unfold dS
 rw [if_neg (by rw [hI.right];decide),if_neg (by
   rintro (q|q)
   · simp [cX] at q
   · exact q (dp _ _).1),if_neg (by
   rw [show jU g.flt [] = [] from rfl];simp),if_neg (by
   rw [hI.flt,hI.id,hI.cnt];omega),Bn,hknow,if_neg (by rw [b3];decide),if_neg (by omega),hI.id,hI.flt,hI.cnt]
end Go.Proofs.YtembiemaiacdfaaGreat
