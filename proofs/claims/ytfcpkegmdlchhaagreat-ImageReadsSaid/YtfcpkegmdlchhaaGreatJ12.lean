/- Texts joined: FcR Law10P KnT RnO. -/
import Derived.Test.YtfcpkegmdlchhaaGreatJ10
import Derived.Test.YtfcpkegmdlchhaaGreatJ11
import Derived.Test.YtfcpkegmdlchhaaGreatJ06
set_option maxRecDepth 10000
set_option maxHeartbeats 8000000
namespace Go.Proofs.YtfcpkegmdlchhaaGreat
open Go.RowKit
def ba (l:List UInt8):ByteArray:=⟨l.toArray⟩
/-- a range read; what is left, and the first error -/
def rgSt (l:List UInt8) (e:Int):Rg × List UInt8 × Int:=
 let t:=textSt 17 l e
 let o:=withinSt 0 1 t.2.1 t.2.2
 if (o.1 == 1) = true then (⟨ba t.1,e0,true⟩,o.2.1,o.2.2) else
   let h:=textSt 17 o.2.1 o.2.2
   (⟨ba t.1,ba h.1,false⟩,h.2.1,h.2.2)
/-- as many things, read one behind the other, till an error -/
def lsSt {α:Type} (st:List UInt8 → Int → α × List UInt8 × Int):Nat → List α → List UInt8 → Int → List α × List UInt8 × Int
 | 0,acc,l,e=>(acc,l,e)
 | n + 1,acc,l,e=>if e ≠ 0 then (acc,l,e) else lsSt st n (acc ++ [(st l e).1]) (st l e).2.1 (st l e).2.2
def lisSt {α:Type} (st:List UInt8 → Int → α × List UInt8 × Int) (most:Int) (l:List UInt8) (e:Int):List α × List UInt8 × Int:=
 lsSt st (withinSt 0 most l e).1.toNat [] (withinSt 0 most l e).2.1 (withinSt 0 most l e).2.2
theorem lsSt_suf {α:Type} {st:List UInt8 → Int → α × List UInt8 × Int} (h:∀ l e,(st l e).2.1 <:+ l):∀ (n:Nat) (acc:List α) (l:List UInt8) (e:Int),(lsSt st n acc l e).2.1 <:+ l:=by
 intro n
 induction n with
 | zero=>intro acc l e;exact List.suffix_refl l
 | succ n ih=>
   intro acc l e
   unfold lsSt
   split
   · exact List.suffix_refl l
   · exact (ih _ _ _).trans (h _ _)
theorem lsSt_len {α:Type} {st:List UInt8 → Int → α × List UInt8 × Int}:∀ (n:Nat) (acc:List α) (l:List UInt8) (e:Int),(lsSt st n acc l e).1.length ≤ acc.length + n:=by
 intro n
 induction n with
 | zero=>intro acc l e;simp [lsSt]
 | succ n ih=>
   intro acc l e
   unfold lsSt
   split
   · simp
   · have:=ih (acc ++ [(st l e).1]) (st l e).2.1 (st l e).2.2
     simp at this ⊢;omega
instance (l:List Rg):Decidable (rgsOk l):=by unfold rgsOk rgOk;infer_instance
/-- the first error, or what was read if it is right -/
def finL {α:Type} (ok:List α → Prop) [DecidablePred ok] (r:List α × List UInt8 × Int):List α × Int:=
 if endSt r.2.1 r.2.2 ≠ 0 then ([],endSt r.2.1 r.2.2) else if ok r.1 then (r.1,0) else ([],11)
def rdRgs (b:List UInt8):List Rg × Int:=finL rgsOk (lisSt rgSt 4096 b 0)
section
theorem fc_span (l:List UInt8) (e:Int):FnM Tryz.prog 99 [.aggK rdC .aggN] [(1000,rdBox l e)] (rgC (rgSt l e).1) [(1000,rdBox (rgSt l e).2.1 (rgSt l e).2.2)]:=by
 dsimp only [rgSt]
 have h1:=r_Text l e 17
 generalize textSt 17 l e = t at *
 have h2:=r_Bool t.2.1 t.2.2
 generalize withinSt 0 1 t.2.1 t.2.2 = o at *
 have h3:=r_Text o.2.1 o.2.2 17
 generalize textSt 17 o.2.1 o.2.2 = h at *
 by_cases ho:(o.1 == 1) = true
 · rw [if_pos ho]
   rw [ho] at h2
   refine fmi Tryz.func99 Tryz.ntmps99 ?_
   (have kr1:=h1;have kr2:=h2;have kr3:=h3;refine w0 ?_;(repeat' first|refine W2.mk ?_ ?_|refine W1.mk fun hc=>?_);all_goals clear kr3 kr2 kr1)
   (refine ⟨(by first|exact .inl rfl|exact .inr rfl),resM1 [(1000,1000)] rfl rfl ?_ ?_⟩;(focus (repeat (first|exact AllX.nil|(refine AllX.cons rfl ?_ ?_;(focus first|rfl|skip))))))
   exact rvm_cellA inferInstance inferInstance rfl rfl rfl rfl rfl rfl
 · rw [if_neg ho]
   rw [show (o.1 == 1) = false by simpa using ho] at h2
   refine fmi Tryz.func99 Tryz.ntmps99 ?_
   (have kr1:=h1;have kr2:=h2;have kr3:=h3;refine w0 ?_;(repeat' first|refine W2.mk ?_ ?_|refine W1.mk fun hc=>?_);all_goals clear kr3 kr2 kr1)
   (refine ⟨(by first|exact .inl rfl|exact .inr rfl),resM1 [(1000,1000)] rfl rfl ?_ ?_⟩;(focus (repeat (first|exact AllX.nil|(refine AllX.cons rfl ?_ ?_;(focus first|rfl|skip))))))
   exact rvm_cellA inferInstance inferInstance rfl rfl rfl rfl rfl rfl
abbrev rgFC:Cnt:=.per (rawP (.func (.func 99) #[] #[]))
theorem fc_list_rg (most:Int) (hm:0 ≤ most) (hm2:most ≤ 1000000) (l:List UInt8) (e:Int):FnM Tryz.prog 98 [.aggK rdC .aggN,iC .i64 most,rgFC] [(1000,rdBox l e)] (.row 3000 0) [(1000,rdBox (lisSt rgSt most l e).2.1 (lisSt rgSt most l e).2.2),(3000,.row 114 3 ((lisSt rgSt most l e).1.map rgP))]:=by
 dsimp only [lisSt]
 have h1:=r_Within l e 0 most
 have hn:=within_rng0 (most:=most) hm l e
 generalize withinSt 0 most l e = s at *
 obtain ⟨n,l0,e0⟩:=s
 simp only at h1 hn ⊢
 obtain ⟨hn0,hn1⟩:=hn
 obtain ⟨n,rfl⟩:=Int.eq_ofNat_of_zero_le hn0
 rw [Int.toNat_natCast]
 generalize hR:lsSt rgSt n [] l0 e0 = R at *
 refine fmi Tryz.func98 Tryz.ntmps98 ?_
 (have kr1:=h1;refine w0 ?_;(repeat' first|refine W2.mk ?_ ?_|refine W1.mk fun hc=>?_);all_goals clear kr1)
 refine AW_le (Le_nil 8 600 114 3 rfl rfl) ?_
 refine AW_loopP (X:=Nat × List Rg × List UInt8 × Int) (fun x=>x.1 ≤ n ∧ x.2.1.length ≤ x.1 ∧ lsSt rgSt (n - x.1) x.2.1 x.2.2.1 x.2.2.2 = R)
   (fun x=>mkSt [(2,rgFC),(3,.ptr 3 0 0),(7,iC .i64 (n:Nat)),(8,.row 600 0),(9,iC .i64 (x.1:Nat))] [(3,.box 143 [rdC]),(1000,rdBox x.2.2.1 x.2.2.2),(600,.row 114 3 (x.2.1.map rgP))]) (fun x=>n - x.1) (0,[],l0,e0) ⟨Nat.zero_le _,Nat.le_refl _,hR⟩ ?_ ?_
 · exact le_auto
 · rintro ⟨i,acc,l,e⟩ ⟨hi,hacc,hR⟩
   simp only at hi hacc hR ⊢
   have hE:=r_Err l e
   by_cases hlt:i < n
   · by_cases he:e = 0
     · subst he
       obtain ⟨m,hm⟩:∃ m,n - i = m + 1:=⟨n - i - 1,by omega⟩
       rw [hm,lsSt,if_neg (by simp)] at hR
       have h2:=fc_span l 0
       generalize rgSt l 0 = q at *
       (have kr1:=hE;refine w0 ?_;(repeat' (first|refine W2.mk ?_ ?_|refine W1.mk fun hc=>?_|((first|apply AL_t rfl|apply AL_0 rfl|apply AD_t rfl|apply AD_0 rfl);(focus (first|(exact c_Vx [(1000,1000)] h2)|(apply u_g;(focus rfl);apply op_gyes rfl rfl rfl rfl rfl;first|(exact c_Vx [(1000,1000)] h2))));refine w0 ?_)));all_goals clear kr1)
       refine ⟨(i + 1,acc ++ [q.1],q.2.1,q.2.2),⟨by simp only;omega,by simp;omega,by simp only;rw [show n - (i + 1) = m by omega];exact hR⟩,by simp only;omega,?_⟩
       exact le_auto
     · have hR2:R = (acc,l,e):=by
         rw [← hR]
         cases n - i with
         | zero=>rfl
         | succ m=>rw [lsSt,if_pos he]
       subst hR2
       (have kr1:=hE;refine w0 ?_;(repeat' first|refine W2.mk ?_ ?_|refine W1.mk fun hc=>?_);all_goals clear kr1)
       refine ⟨.inl rfl,resM1 [(1000,1000),(600,3000)] rfl rfl ?_ (rvm rfl rfl)⟩
       (repeat (first|exact AllX.nil|(refine AllX.cons rfl ?_ ?_;(focus first|rfl|skip))))
   · have hR2:R = (acc,l,e):=by
       rw [← hR,show n - i = 0 by omega];rfl
     subst hR2
     (have kr1:=hE;refine w0 ?_;(repeat' first|refine W2.mk ?_ ?_|refine W1.mk fun hc=>?_);all_goals clear kr1)
     refine ⟨.inl rfl,resM1 [(1000,1000),(600,3000)] rfl rfl ?_ (rvm rfl rfl)⟩
     (repeat (first|exact AllX.nil|(refine AllX.cons rfl ?_ ?_;(focus first|rfl|skip))))
end
end Go.Proofs.YtfcpkegmdlchhaaGreat
namespace Go.Proofs.YtfcpkegmdlchhaaGreat
open Go.RowKit
section
theorem lisSt_len {α:Type} {st:List UInt8 → Int → α × List UInt8 × Int} {most:Int} (h:0 ≤ most) (l:List UInt8) (e:Int):((lisSt st most l e).1.length:Int) ≤ most:=by
 have h1:=lsSt_len (st:=st) (withinSt 0 most l e).1.toNat [] (withinSt 0 most l e).2.1 (withinSt 0 most l e).2.2
 have h2:=within_rng0 (most:=most) h l e
 unfold lisSt
 simp at h1
 omega
theorem fcode_ReadRanges (b:List UInt8) (hb:b.length ≤ 1000000000):Fn Tryz.prog 45 [bytesB b] (.tup2 (.own 114 3 ((rdRgs b).1.map rgP)) (inR (rdRgs b).2)):=by
 have h1:=fc_list_rg 4096 (by omega) (by omega) b 0
 have hn:=lisSt_len (st:=rgSt) (most:=4096) (by omega) b 0
 generalize hQ:rdRgs b = Q at *
 unfold rdRgs at hQ
 generalize lisSt rgSt 4096 b 0 = R at *
 obtain ⟨acc,l,e⟩:=R
 simp only at hQ h1 hn
 have h2:=r_End l e
 have h3:=rgs_Right acc (by omega) (decide (rgsOk acc)) (by simp)
 refine fi Tryz.func45 Tryz.ntmps45 ?_
 (have kn1:=v_New b hb;have km1:=(show FnMs [(1000,8),(3000,700)] _ _ _ _ _ _ from h1);have kr1:=h2;have kc1:=h3;refine w0 ?_;(repeat' first|refine W2.mk ?_ ?_|refine W1.mk fun hc=>?_);all_goals clear kc1 kr1 km1 kn1)
 · rw [finL,if_pos (by assumption)] at hQ
   subst hQ
   refine rt2 ?_ ?_
   · exact rv_nil rfl
   · exact rv_int rfl rfl
 · rw [finL,if_neg (by simp [*]),if_neg (by simp_all)] at hQ
   subst hQ
   refine rt2 ?_ ?_
   · exact rv_nil rfl
   · exact rv_int rfl rfl
 · rw [finL,if_neg (by simp [*]),if_pos (by simp_all)] at hQ
   subst hQ
   refine rt2 ?_ ?_
   · exact rv_own rfl rfl rfl
   · exact rv_int rfl rfl
theorem ref_ReadRanges (b:List UInt8) (hb:b.length ≤ 1000000000):Fn Tryz.prog 67 [.per (bysP b)] (.tup2 (.own 114 3 ((rdRgs b).1.map rgP)) (inR (rdRgs b).2)):=by
 have hs:b <:+ b:=List.suffix_refl b
 have hb':b.length ≤ 1000000000000:=by omega
 generalize hQ:rdRgs b = Q at *
 dsimp only [rdRgs,lisSt] at hQ
 have h1:=rr_Within b b 0 hs hb' 0 4096
 have hn:=within_rng0 (most:=4096) (by omega) b 0
 replace hs:=(withinSt_suf 0 4096 b 0).trans hs
 generalize withinSt 0 4096 b 0 = s at *
 obtain ⟨n,l0,e0'⟩:=s
 simp only at h1 hn hs hQ
 obtain ⟨hn0,hn1⟩:=hn
 obtain ⟨n,rfl⟩:=Int.eq_ofNat_of_zero_le hn0
 rw [Int.toNat_natCast] at hQ
 generalize hR:lsSt rgSt n [] l0 e0' = R at *
 have e0:((b.length - b.length:Nat):Int) = 0:=by omega
 unfold rrBox at h1
 rw [e0] at h1
 refine fi Tryz.func67 Tryz.ntmps67 ?_
 (have kr1:=h1;refine w0 ?_;(repeat' first|refine W2.mk ?_ ?_|refine W1.mk fun hc=>?_);all_goals clear kr1)
 refine AW_le (Le_nil 6 600 114 3 rfl rfl) ?_
 refine AW_loopP (X:=Nat × List Rg × List UInt8 × Int) (fun x=>x.1 ≤ n ∧ x.2.1.length ≤ x.1 ∧ x.2.2.1 <:+ b ∧ lsSt rgSt (n - x.1) x.2.1 x.2.2.1 x.2.2.2 = R)
   (fun x=>mkSt [(4,.ptr 11 0 0),(5,iC .i64 (n:Nat)),(6,.row 600 0),(7,iC .i64 (x.1:Nat))] [(11,rrBox b x.2.2.1 x.2.2.2),(600,.row 114 3 (x.2.1.map rgP))]) (fun x=>n - x.1) (0,[],l0,e0') ⟨Nat.zero_le _,Nat.le_refl _,hs,hR⟩ ?_ ?_
 · exact le_auto
 · clear h1 hR hs
   rintro ⟨i,acc,l,e⟩ ⟨hi,hacc,hs,hR⟩
   simp only at hi hacc hs hR ⊢
   have hD:=rr_End b l e hs
   by_cases hst:i < n ∧ e = 0
   · obtain ⟨hlt,he⟩:=hst
     subst he
     obtain ⟨m,hm⟩:∃ m,n - i = m + 1:=⟨n - i - 1,by omega⟩
     rw [hm,lsSt,if_neg (by simp)] at hR
     clear hQ hD
     dsimp only [rgSt] at hR
     have h2:=rr_Text b l 0 hs hb' 17
     replace hs:=(textSt_suf 17 l 0).trans hs
     generalize textSt 17 l 0 = t at *
     have h3:=rr_Within b t.2.1 t.2.2 hs hb' 0 1
     replace hs:=(withinSt_suf 0 1 t.2.1 t.2.2).trans hs
     generalize withinSt 0 1 t.2.1 t.2.2 = o at *
     by_cases ho:o.1 = 1
     · rw [if_pos (by simp [ho])] at hR
       rw [ho] at h3
       (have kr1:=h2;have kr2:=h3;refine w0 ?_;(repeat' first|refine W2.mk ?_ ?_|refine W1.mk fun hc=>?_);all_goals clear kr2 kr1)
       refine ⟨(i + 1,acc ++ [⟨ba t.1,ByteArray.mk #[],true⟩],o.2.1,o.2.2),⟨by simp only;omega,by simp;omega,hs,by simp only;rw [show n - (i + 1) = m by omega];exact hR⟩,by simp only;omega,?_⟩
       exact le_auto
     · rw [if_neg (by simp [ho])] at hR
       have h4:=rr_Text b o.2.1 o.2.2 hs hb' 17
       replace hs:=(textSt_suf 17 o.2.1 o.2.2).trans hs
       generalize textSt 17 o.2.1 o.2.2 = h at *
       (have kr1:=h2;have kr2:=h3;have kr3:=h4;refine w0 ?_;(repeat' first|refine W2.mk ?_ ?_|refine W1.mk fun hc=>?_);all_goals clear kr3 kr2 kr1)
       refine ⟨(i + 1,acc ++ [⟨ba t.1,ba h.1,false⟩],h.2.1,h.2.2),⟨by simp only;omega,by simp;omega,hs,by simp only;rw [show n - (i + 1) = m by omega];exact hR⟩,by simp only;omega,?_⟩
       (refine Le_mk ?_ ?_;(focus ((repeat (first|exact AllG.nil|(refine AllG.cons ?_ ?_;rotate_left)));(all_goals try (first|rfl|(refine eqI ?_;first|omega|(simp;done)|(simp;omega))|(refine eqBo ?_;first|(simp;done)|(simp [*];done))))));(focus ((repeat (first|exact AllB.nil|(refine AllB.cons ?_ ?_;rotate_left)));(all_goals try (first|rfl|(refine eqRw ?_;(rw [List.map_append] <;> rfl);done)|(refine eqMix ?_;(rw [List.map_append] <;> rfl);done))))))
       show Blk.row _ _ (acc.map rgP ++ [[_,_,rawP (.bool (o.1 == 1))]]) = _
       rw [show (o.1 == 1) = false by simpa using ho,List.map_append]
       rfl
   · have hR2:R = (acc,l,e):=by
       rw [← hR]
       by_cases he:e = 0
       · rw [show n - i = 0 by omega];rfl
       · cases n - i with
         | zero=>rfl
         | succ m=>rw [lsSt,if_pos he]
     subst hR2
     have h3:=rrgs_Right acc (by omega) (decide (rgsOk acc)) (by simp)
     by_cases hlt:i < n
     · have he:e ≠ 0:=fun q=>hst ⟨hlt,q⟩
       have hen:endSt l e ≠ 0:=by unfold endSt;rw [if_neg (fun q=>he q.1)];exact he
       rw [finL,if_pos hen] at hQ
       subst hQ
       (have kr1:=hD;have kc1:=h3;refine w0 ?_;(repeat' first|refine W2.mk ?_ ?_|refine W1.mk fun hc=>?_);all_goals clear kc1 kr1)
       refine rt2 ?_ ?_
       · exact rv_nil rfl
       · exact rv_int rfl rfl
     · (have kr1:=hD;have kc1:=h3;refine w0 ?_;(repeat' first|refine W2.mk ?_ ?_|refine W1.mk fun hc=>?_);all_goals clear kc1 kr1)
       · rw [finL,if_pos (by assumption)] at hQ
         subst hQ
         refine rt2 ?_ ?_
         · exact rv_nil rfl
         · exact rv_int rfl rfl
       · rw [finL,if_neg (by simp [*]),if_neg (by simp_all)] at hQ
         subst hQ
         refine rt2 ?_ ?_
         · exact rv_nil rfl
         · exact rv_int rfl rfl
       · rw [finL,if_neg (by simp [*]),if_pos (by simp_all)] at hQ
         subst hQ
         refine rt2 ?_ ?_
         · exact rv_own rfl rfl rfl
         · exact rv_int rfl rfl
end
theorem ls_put {α:Type} {st:List UInt8 → Int → α × List UInt8 × Int} {B:α → List UInt8}:∀ (l acc:List α) (r:List UInt8),(∀ x ∈ l,∀ r,st (B x ++ r) 0 = (x,r,0)) → lsSt st l.length acc (l.flatMap B ++ r) 0 = (acc ++ l,r,0):=by
 intro l
 induction l with
 | nil=>intro acc r _;simp [lsSt]
 | cons x l ih=>
   intro acc r h
   rw [List.length_cons,lsSt,if_neg (by simp),List.flatMap_cons,List.append_assoc,h x List.mem_cons_self]
   rw [ih _ _ (fun y hy=>h y (List.mem_cons_of_mem _ hy))]
   simp
theorem ls_back {α:Type} {st:List UInt8 → Int → α × List UInt8 × Int} {B:α → List UInt8} (h:∀ l e,(st l e).2.2 = 0 → e = 0 ∧ l = B (st l e).1 ++ (st l e).2.1) :
   ∀ (n:Nat) (acc:List α) (l:List UInt8) (e:Int),(lsSt st n acc l e).2.2 = 0 → e = 0 ∧ ∃ m:List α,(lsSt st n acc l e).1 = acc ++ m ∧ m.length = n ∧ l = m.flatMap B ++ (lsSt st n acc l e).2.1:=by
 intro n
 induction n with
 | zero=>intro acc l e h0;exact ⟨h0,[],by simp [lsSt],rfl,by simp [lsSt]⟩
 | succ n ih=>
   intro acc l e h0
   unfold lsSt at h0 ⊢
   by_cases he:e = 0
   · subst he
     rw [if_neg (by simp)] at h0 ⊢
     obtain ⟨g1,m,g2,g3,g4⟩:=ih _ _ _ h0
     obtain ⟨_,r2⟩:=h l 0 g1
     refine ⟨rfl,(st l 0).1 :: m,by rw [g2];simp,by simp [g3],?_⟩
     rw [List.flatMap_cons,List.append_assoc,← g4]
     exact r2
   · rw [if_pos he] at h0
     exact absurd h0 he
theorem list_put {α:Type} {st:List UInt8 → Int → α × List UInt8 × Int} {B:α → List UInt8} {ok:List α → Prop} [DecidablePred ok] {most:Int} {l:List α} (h:∀ x ∈ l,∀ r,st (B x ++ r) 0 = (x,r,0)) (hl:(l.length:Int) ≤ most) (hm:most ≤ 1000000) (hok:ok l) :
   finL ok (lisSt st most (numI (l.length:Nat) ++ l.flatMap B) 0) = (l,0):=by
 unfold lisSt
 rw [within_put (by unfold okNum;omega) (by omega) hl]
 dsimp only
 rw [Int.toNat_natCast]
 have:=ls_put (st:=st) (B:=B) l [] [] h
 rw [List.append_nil] at this
 rw [this]
 simp [finL,endSt,hok]
theorem list_back {α:Type} {st:List UInt8 → Int → α × List UInt8 × Int} {B:α → List UInt8} {ok:List α → Prop} [DecidablePred ok] {most:Int} {b:List UInt8} (h:∀ l e,(st l e).2.2 = 0 → e = 0 ∧ l = B (st l e).1 ++ (st l e).2.1)
   (h0:(finL ok (lisSt st most b 0)).2 = 0):ok (finL ok (lisSt st most b 0)).1 ∧ ((finL ok (lisSt st most b 0)).1.length:Int) ≤ most ∧ numI ((finL ok (lisSt st most b 0)).1.length:Nat) ++ (finL ok (lisSt st most b 0)).1.flatMap B = b:=by
 unfold finL at h0 ⊢
 split at h0
 · rename_i hc;exact absurd h0 hc
 · rename_i hc
   rw [if_neg hc]
   split at h0
   · rename_i hk
     rw [if_pos hk]
     obtain ⟨e1,e2⟩:=end_back (by simpa using hc)
     unfold lisSt at e1 e2 hk ⊢
     obtain ⟨g1,m,g3,g4,g6⟩:=ls_back h _ _ _ _ e2
     obtain ⟨_,w2,w3,w4,w5⟩:=within_back g1
     refine ⟨hk,?_,?_⟩
     · rw [g3];simp;omega
     · rw [e1,List.append_nil] at g6
       simp only [g3,List.nil_append]
       rw [g4,← g6,Int.toNat_of_nonneg w3,← w5]
   · cases h0
theorem ba_eq {s:ByteArray}:ba s.data.toList = s:=ba_eta s
theorem rg_put {r:Rg} (h:rgR r = true) (x:List UInt8):rgSt (rgB r ++ x) 0 = (r,x,0):=by
 obtain ⟨h1,h2,h3⟩:=(rgR_iff r).1 h
 obtain ⟨lo,hi,op⟩:=r
 simp only at h1 h2 h3
 dsimp only [rgSt,rgB]
 cases op with
 | true=>
   simp only [if_true] at h3 ⊢
   subst h3
   rw [List.append_assoc,text_put (by omega) (by omega)]
   dsimp only
   rw [within_put (by unfold okNum;omega) (by omega) (by omega)]
   dsimp only
   rw [if_pos (by decide),ba_eq]
 | false=>
   simp only [Bool.false_eq_true,if_false]
   rw [List.append_assoc,text_put (by omega) (by omega)]
   dsimp only
   rw [List.append_assoc,within_put (by unfold okNum;omega) (by omega) (by omega)]
   dsimp only
   rw [if_neg (by decide),text_put (by omega) (by omega)]
   dsimp only
   rw [ba_eq,ba_eq]
theorem rg_back {l:List UInt8} {e:Int} (h:(rgSt l e).2.2 = 0):e = 0 ∧ l = rgB (rgSt l e).1 ++ (rgSt l e).2.1:=by
 dsimp only [rgSt] at h ⊢
 split at h
 · rename_i ho
   rw [if_pos ho]
   obtain ⟨o1,_,_,_,o5⟩:=within_back h
   obtain ⟨t1,_,t3⟩:=text_back o1
   rw [beq_iff_eq] at ho
   rw [ho] at o5
   refine ⟨t1,?_⟩
   simp only [rgB,if_true]
   rw [List.append_assoc,← o5]
   exact t3
 · rename_i ho
   rw [if_neg ho]
   obtain ⟨h1,_,h3⟩:=text_back h
   obtain ⟨o1,_,o3,o4,o5⟩:=within_back h1
   obtain ⟨t1,_,t3⟩:=text_back o1
   have ho':(withinSt 0 1 (textSt 17 l e).2.1 (textSt 17 l e).2.2).1 = 0:=by
     have:(withinSt 0 1 (textSt 17 l e).2.1 (textSt 17 l e).2.2).1 ≠ 1:=by simpa using ho
     omega
   rw [ho'] at o5
   refine ⟨t1,?_⟩
   simp only [rgB,Bool.false_eq_true,if_false]
   rw [List.append_assoc,List.append_assoc]
   unfold ba
   rw [← h3,← o5]
   exact t3
theorem rdRgs_put {l:List Rg} (h:rgsOk l) (hl:l.length ≤ 4096):rdRgs (rgsBy l) = (l,0):=
 list_put (fun x hx r=>by
   obtain ⟨i,hi,rfl⟩:=List.getElem_of_mem hx
   exact rg_put (rgsOk_R h hi) r) (by omega) (by omega) h
theorem rdRgs_back {b:List UInt8} (h:(rdRgs b).2 = 0):rgsOk (rdRgs b).1 ∧ ((rdRgs b).1.length:Int) ≤ 4096 ∧ rgsBy (rdRgs b).1 = b:=list_back (fun _ _=>rg_back) h
theorem flat_len {α:Type} {B:α → List UInt8}:∀ l:List α,(∀ x ∈ l,(B x).length ≤ 40) → (l.flatMap B).length ≤ 40 * l.length:=by
 intro l
 induction l with
 | nil=>intro _;simp
 | cons x l ih=>
   intro h
   have h1:=h x List.mem_cons_self
   have h2:=ih (fun y hy=>h y (List.mem_cons_of_mem _ hy))
   rw [List.flatMap_cons,List.length_append,List.length_cons];omega
theorem rgsBy_len {l:List Rg} (h:rgsOk l) (hl:l.length ≤ 4096):(rgsBy l).length ≤ 10 + 40 * l.length:=by
 have h1:=flat_len (B:=rgB) l (fun x hx=>by
   obtain ⟨i,hi,rfl⟩:=List.getElem_of_mem hx
   exact rgB_len (rgsOk_R h hi))
 have h2:=numI_len (l.length:Int) (by omega)
 unfold rgsBy
 rw [List.length_append];omega
structure Rn where
 fr:Int
 to:Int
deriving DecidableEq
structure Kn where
 rep:Int
 runs:List Rn
deriving DecidableEq
structure Pc where
 rg:Rg
 set:List Kn
deriving DecidableEq
def encRn (r:Rn):List Value:=[.int .i64 r.fr,.int .i64 r.to]
theorem encRn_ok:Enc 2 encRn:=⟨by decide,fun _=>rfl,fun x u hu=>by
 simp only [encRn,List.mem_cons,List.not_mem_nil,or_false] at hu
 rcases hu with rfl|rfl <;> rfl⟩
abbrev rnP (r:Rn):List PV:=[rawP (.int .i64 r.fr),rawP (.int .i64 r.to)]
abbrev rnC (r:Rn):Cnt:=.per (aggP (rnP r))
abbrev rnsP (l:List Rn):PV:=lstP 2 (l.map rnP)
abbrev rnsB (l:List Rn):Cnt:=.bor 2 (l.map rnP)
abbrev knP (k:Kn):List PV:=[rawP (.int .i64 k.rep),rnsP k.runs]
abbrev knC (k:Kn):Cnt:=.per (aggP (knP k))
abbrev knsP (l:List Kn):PV:=lstP 2 (l.map knP)
abbrev knsB (l:List Kn):Cnt:=.bor 2 (l.map knP)
abbrev pcP (p:Pc):List PV:=[rawP (.string p.rg.lo),rawP (.string p.rg.hi),rawP (.bool p.rg.op),knsP p.set]
abbrev pcC (p:Pc):Cnt:=.per (aggP (pcP p))
abbrev pcsP (l:List Pc):PV:=lstP 4 (l.map pcP)
abbrev pcsB (l:List Pc):Cnt:=.bor 4 (l.map pcP)
/-- right runs -/
def rnR (r:Rn):Bool:=decide (1 ≤ r.fr ∧ r.fr ≤ r.to ∧ r.to ≤ 1099511627776)
theorem rnR_iff (r:Rn):rnR r = true ↔ 1 ≤ r.fr ∧ r.fr ≤ r.to ∧ r.to ≤ 1099511627776:=by unfold rnR;exact decide_eq_true_iff
def rnOk (l:List Rn) (i:Nat):Prop:=∀ h:i < l.length,rnR l[i] = true ∧ ∀ h0:0 < i,l[i - 1].to + 2 ≤ l[i].fr
def rnsOk (l:List Rn):Prop:=∀ i,i < l.length → rnOk l i
/-- right sets -/
def knOk (l:List Kn) (i:Nat):Prop:=∀ h:i < l.length,1 ≤ l[i].rep ∧ l[i].rep ≤ 16 ∧ l[i].runs ≠ [] ∧ rnsOk l[i].runs ∧ ∀ h0:0 < i,l[i - 1].rep < l[i].rep
def knsOk (l:List Kn):Prop:=∀ i,i < l.length → knOk l i
/-- right knowledge -/
def pcOk (l:List Pc) (i:Nat):Prop:=∀ h:i < l.length,rgR l[i].rg = true ∧ l[i].set ≠ [] ∧ knsOk l[i].set ∧ ∀ h0:0 < i,l[i - 1].rg.op = false ∧ cmpB l[i - 1].rg.hi l[i].rg.lo ≤ 0 ∧ ¬ (l[i - 1].rg.hi = l[i].rg.lo ∧ l[i - 1].set = l[i].set)
def pcsOk (l:List Pc):Prop:=∀ i,i < l.length → pcOk l i
instance (l:List Rn) (i:Nat):Decidable (rnOk l i):=by unfold rnOk;infer_instance
instance (l:List Rn):Decidable (rnsOk l):=by unfold rnsOk;infer_instance
instance (l:List Kn) (i:Nat):Decidable (knOk l i):=by unfold knOk;infer_instance
instance (l:List Kn):Decidable (knsOk l):=by unfold knsOk;infer_instance
instance (l:List Pc) (i:Nat):Decidable (pcOk l i):=by unfold pcOk;infer_instance
instance (l:List Pc):Decidable (pcsOk l):=by unfold pcsOk;infer_instance
theorem knsOk_get {l:List Kn} (h:knsOk l) {i:Nat} (hi:i < l.length):1 ≤ l[i].rep ∧ l[i].rep ≤ 16 ∧ l[i].runs ≠ [] ∧ rnsOk l[i].runs:=
 let ⟨a,b,c,d,_⟩:=h i hi hi;⟨a,b,c,d⟩
theorem knsOk_rise {l:List Kn} (h:knsOk l):∀ i (hi:i < l.length),((i:Int) + 1) ≤ l[i].rep:=by
 intro i
 induction i with
 | zero=>intro hi;have:=(knsOk_get h hi).1;simpa using this
 | succ i ih=>
   intro hi
   have h1:=ih (by omega)
   have h2:=(h (i + 1) hi hi).2.2.2.2 (by omega)
   simp only [Nat.add_sub_cancel] at h2
   omega
theorem knsOk_len {l:List Kn} (h:knsOk l):l.length ≤ 16:=by
 rcases Nat.eq_zero_or_pos l.length with h0|h0
 · omega
 · have h1:=knsOk_rise h (l.length - 1) (by omega)
   have h2:=(knsOk_get h (i:=l.length - 1) (by omega)).2.1
   omega
theorem rnsOk_get {l:List Rn} (h:rnsOk l) {i:Nat} (hi:i < l.length):1 ≤ l[i].fr ∧ l[i].fr ≤ l[i].to ∧ l[i].to ≤ 1099511627776:=(rnR_iff _).1 (h i hi hi).1
/-! ### bytes -/
def runsB:Int → List Rn → List UInt8
 | _,[]=>[]
 | was,r :: l=>numI (r.fr - was) ++ (numI (r.to - r.fr) ++ runsB r.to l)
def knB (k:Kn):List UInt8:=numI k.rep ++ (numI (k.runs.length:Nat) ++ runsB 0 k.runs)
def setB (s:List Kn):List UInt8:=numI (s.length:Nat) ++ s.flatMap knB
def pcB (p:Pc):List UInt8:=rgB p.rg ++ setB p.set
def knowB (k:List Pc):List UInt8:=numI (k.length:Nat) ++ k.flatMap pcB
/-! ### read -/
def rnsSt:Nat → List Rn → Int → List UInt8 → Int → List Rn × List UInt8 × Int
 | 0,acc,_,l,e=>(acc,l,e)
 | n + 1,acc,was,l,e=>if e ≠ 0 then (acc,l,e) else
   let x:=numSt l e
   let y:=numSt x.2.1 x.2.2
   rnsSt n (acc ++ [⟨was + x.1,was + x.1 + y.1⟩]) (was + x.1 + y.1) y.2.1 y.2.2
def knSt (l:List UInt8) (e:Int):Kn × List UInt8 × Int:=
 let a:=withinSt 1 16 l e
 let n:=withinSt 0 4096 a.2.1 a.2.2
 let r:=rnsSt n.1.toNat [] 0 n.2.1 n.2.2
 (⟨a.1,r.1⟩,r.2.1,r.2.2)
def pcSt (l:List UInt8) (e:Int):Pc × List UInt8 × Int:=
 let r:=rgSt l e
 let s:=lisSt knSt 16 r.2.1 r.2.2
 (⟨r.1,s.1⟩,s.2.1,s.2.2)
def rdKnow (b:List UInt8):List Pc × Int:=finL pcsOk (lisSt pcSt 4096 b 0)
theorem numSt_within (l:List UInt8) (e:Int):withinSt 0 281474976710656 l e = numSt l e:=by
 have h:=rdNum_rng l
 unfold withinSt numSt
 split
 · rw [if_neg];simp only;omega
 · rename_i he
   by_cases h0:(rdNum l).2.2 = 0
   · simp [h0];omega
   · simp [h0]
theorem numSt_rng (l:List UInt8) (e:Int):0 ≤ (numSt l e).1 ∧ (numSt l e).1 ≤ 281474976710656:=by
 have h:=rdNum_rng l
 unfold numSt
 split
 · simp
 · split <;> simp <;> omega
theorem rnsSt_suf:∀ (n:Nat) (acc:List Rn) (was:Int) (l:List UInt8) (e:Int),(rnsSt n acc was l e).2.1 <:+ l:=by
 intro n
 induction n with
 | zero=>intro acc was l e;exact List.suffix_refl l
 | succ n ih=>
   intro acc was l e
   unfold rnsSt
   split
   · exact List.suffix_refl l
   · exact (ih _ _ _ _).trans ((numSt_suf _ _).trans (numSt_suf _ _))
theorem knSt_suf (l:List UInt8) (e:Int):(knSt l e).2.1 <:+ l:=by
 dsimp only [knSt]
 exact (rnsSt_suf _ _ _ _ _).trans ((withinSt_suf _ _ _ _).trans (withinSt_suf _ _ _ _))
theorem lisSt_suf {α:Type} {st:List UInt8 → Int → α × List UInt8 × Int} (h:∀ l e,(st l e).2.1 <:+ l) (most:Int) (l:List UInt8) (e:Int):(lisSt st most l e).2.1 <:+ l:=
 (lsSt_suf h _ _ _ _).trans (withinSt_suf _ _ _ _)
/-! ### put and read -/
theorem runs_put:∀ (l acc:List Rn) (was:Int) (r:List UInt8),0 ≤ was → was ≤ 1099511627776 → (∀ i (h:i < l.length),rnR l[i] = true ∧ (∀ h0:0 < i,l[i - 1].to ≤ l[i].fr) ∧ (i = 0 → was ≤ l[i].fr)) →
   rnsSt l.length acc was (runsB was l ++ r) 0 = (acc ++ l,r,0):=by
 intro l
 induction l with
 | nil=>intro acc was r _ _ _;simp [rnsSt,runsB]
 | cons x l ih=>
   intro acc was r h0 h1 h
   have hx:=h 0 (by simp)
   simp only [List.getElem_cons_zero] at hx
   have hr:=(rnR_iff _).1 hx.1
   have hw:=hx.2.2 trivial
   rw [List.length_cons,rnsSt,if_neg (by simp),runsB,List.append_assoc,num_put (by unfold okNum;omega)]
   dsimp only
   rw [List.append_assoc,num_put (by unfold okNum;omega)]
   dsimp only
   have e1:was + (x.fr - was) = x.fr:=by omega
   have e2:x.fr + (x.to - x.fr) = x.to:=by omega
   rw [e1,e2,ih _ _ _ (by omega) (by omega) (fun i hi=>?_)]
   · simp
   · have hi':=h (i + 1) (by simpa using hi)
     simp only [List.getElem_cons_succ] at hi'
     refine ⟨hi'.1,fun q=>?_,fun q=>?_⟩
     · have:=hi'.2.1 (by omega)
       obtain ⟨j,rfl⟩:∃ j,i = j + 1:=⟨i - 1,by omega⟩
       simpa using this
     · subst q
       have:=hi'.2.1 (by omega)
       simpa using this
theorem kn_put {k:Kn} (h1:1 ≤ k.rep) (h2:k.rep ≤ 16) (h3:rnsOk k.runs) (hf:k.runs.length ≤ 4096) (r:List UInt8):knSt (knB k ++ r) 0 = (k,r,0):=by
 dsimp only [knSt,knB]
 rw [List.append_assoc,within_put (by unfold okNum;omega) h1 h2]
 dsimp only
 rw [List.append_assoc,within_put (by unfold okNum;omega) (by omega) (by omega)]
 dsimp only
 rw [Int.toNat_natCast,runs_put _ _ _ _ (by omega) (by omega) (fun i hi=>?_)]
 · simp
 · have h4:=h3 i hi hi
   have h5:=rnsOk_get h3 hi
   exact ⟨h4.1,fun q=>by have:=h4.2 q;omega,fun _=>by omega⟩
def fewS (s:List Kn):Prop:=∀ k ∈ s,k.runs.length ≤ 4096
theorem lis_put {α:Type} {st:List UInt8 → Int → α × List UInt8 × Int} {B:α → List UInt8} {most:Int} {l:List α} (h:∀ x ∈ l,∀ r,st (B x ++ r) 0 = (x,r,0)) (hl:(l.length:Int) ≤ most) (hm:most ≤ 1000000) (r:List UInt8) :
   lisSt st most (numI (l.length:Nat) ++ (l.flatMap B ++ r)) 0 = (l,r,0):=by
 unfold lisSt
 rw [within_put (by unfold okNum;omega) (by omega) hl]
 dsimp only
 rw [Int.toNat_natCast]
 have:=ls_put (st:=st) (B:=B) l [] r h
 rw [this]
 simp
theorem pc_put {p:Pc} (h1:rgR p.rg = true) (h2:knsOk p.set) (h3:fewS p.set) (r:List UInt8):pcSt (pcB p ++ r) 0 = (p,r,0):=by
 dsimp only [pcSt,pcB,setB]
 rw [List.append_assoc,rg_put h1]
 dsimp only
 rw [List.append_assoc,lis_put (fun k hk r=>?_) (by have:=knsOk_len h2;omega) (by omega)]
 obtain ⟨i,hi,rfl⟩:=List.getElem_of_mem hk
 obtain ⟨a,b,_,d⟩:=knsOk_get h2 hi
 exact kn_put a b d (h3 _ hk) r
theorem rdKnow_put {k:List Pc} (h:pcsOk k) (hf:∀ p ∈ k,fewS p.set) (hl:k.length ≤ 4096):rdKnow (knowB k) = (k,0):=
 list_put (fun p hp r=>by
   obtain ⟨i,hi,rfl⟩:=List.getElem_of_mem hp
   obtain ⟨a,_,c,_⟩:=h i hi hi
   exact pc_put a c (hf _ hp) r) (by omega) (by omega) h
theorem runs_back:∀ (n:Nat) (acc:List Rn) (was:Int) (l:List UInt8) (e:Int),(rnsSt n acc was l e).2.2 = 0 →
   e = 0 ∧ ∃ m:List Rn,(rnsSt n acc was l e).1 = acc ++ m ∧ m.length = n ∧ l = runsB was m ++ (rnsSt n acc was l e).2.1:=by
 intro n
 induction n with
 | zero=>intro acc was l e h0;exact ⟨h0,[],by simp [rnsSt],rfl,by simp [rnsSt,runsB]⟩
 | succ n ih=>
   intro acc was l e h0
   unfold rnsSt at h0 ⊢
   by_cases he:e = 0
   · subst he
     rw [if_neg (by simp)] at h0 ⊢
     dsimp only at h0 ⊢
     obtain ⟨g1,m,g2,g3,g4⟩:=ih _ _ _ _ h0
     obtain ⟨y1,_,y3⟩:=num_back g1
     obtain ⟨_,_,x3⟩:=num_back y1
     refine ⟨rfl,_ :: m,by rw [g2];simp;rfl,by simp [g3],?_⟩
     rw [runsB]
     simp only
     rw [show was + (numSt l 0).1 - was = (numSt l 0).1 by omega,show was + (numSt l 0).1 + (numSt (numSt l 0).2.1 (numSt l 0).2.2).1 - (was + (numSt l 0).1) = (numSt (numSt l 0).2.1 (numSt l 0).2.2).1 by omega]
     rw [List.append_assoc,List.append_assoc,← g4,← y3]
     exact x3
   · rw [if_pos he] at h0
     exact absurd h0 he
theorem kn_back {l:List UInt8} {e:Int} (h:(knSt l e).2.2 = 0):e = 0 ∧ l = knB (knSt l e).1 ++ (knSt l e).2.1:=by
 dsimp only [knSt] at h ⊢
 obtain ⟨g1,m,g2,g3,g4⟩:=runs_back _ _ _ _ _ h
 obtain ⟨n1,_,n3,n4,n5⟩:=within_back g1
 obtain ⟨a1,_,_,_,a5⟩:=within_back n1
 refine ⟨a1,?_⟩
 simp only [knB]
 rw [g2,List.nil_append,g3,Int.toNat_of_nonneg n3,List.append_assoc,List.append_assoc,← g4,← n5]
 exact a5
theorem lis_back {α:Type} {st:List UInt8 → Int → α × List UInt8 × Int} {B:α → List UInt8} {most:Int} (h:∀ l e,(st l e).2.2 = 0 → e = 0 ∧ l = B (st l e).1 ++ (st l e).2.1) {l:List UInt8} {e:Int} (h0:(lisSt st most l e).2.2 = 0) :
   e = 0 ∧ ((lisSt st most l e).1.length:Int) ≤ most ∧ l = numI ((lisSt st most l e).1.length:Nat) ++ ((lisSt st most l e).1.flatMap B ++ (lisSt st most l e).2.1):=by
 unfold lisSt at h0 ⊢
 obtain ⟨g1,m,g3,g4,g6⟩:=ls_back h _ _ _ _ h0
 obtain ⟨w1,w2,w3,w4,w5⟩:=within_back g1
 refine ⟨w1,by rw [g3];simp;omega,?_⟩
 rw [g3,List.nil_append,g4,Int.toNat_of_nonneg w3,← g6]
 exact w5
theorem pc_back {l:List UInt8} {e:Int} (h:(pcSt l e).2.2 = 0):e = 0 ∧ l = pcB (pcSt l e).1 ++ (pcSt l e).2.1:=by
 dsimp only [pcSt] at h ⊢
 obtain ⟨s1,_,s3⟩:=lis_back (fun _ _=>kn_back) h
 obtain ⟨r1,r2⟩:=rg_back s1
 refine ⟨r1,?_⟩
 simp only [pcB,setB]
 rw [List.append_assoc,List.append_assoc,← s3]
 exact r2
theorem rdKnow_back {b:List UInt8} (h:(rdKnow b).2 = 0):pcsOk (rdKnow b).1 ∧ ((rdKnow b).1.length:Int) ≤ 4096 ∧ knowB (rdKnow b).1 = b:=list_back (fun _ _=>pc_back) h
theorem rnsSt_len:∀ (n:Nat) (acc:List Rn) (was:Int) (l:List UInt8) (e:Int),(rnsSt n acc was l e).1.length ≤ acc.length + n:=by
 intro n
 induction n with
 | zero=>intro acc was l e;simp [rnsSt]
 | succ n ih=>
   intro acc was l e
   unfold rnsSt
   split
   · simp
   · have:=ih (acc ++ [⟨was + (numSt l e).1,was + (numSt l e).1 + (numSt (numSt l e).2.1 (numSt l e).2.2).1⟩]) (was + (numSt l e).1 + (numSt (numSt l e).2.1 (numSt l e).2.2).1) (numSt (numSt l e).2.1 (numSt l e).2.2).2.1 (numSt (numSt l e).2.1 (numSt l e).2.2).2.2
     simp at this ⊢;omega
end Go.Proofs.YtfcpkegmdlchhaaGreat
namespace Go.Proofs.YtfcpkegmdlchhaaGreat
/-- a list has a count -/
def hasR (l:List Rn) (n:Int):Prop:=∃ r ∈ l,rnR r = true ∧ r.fr ≤ n ∧ n ≤ r.to
theorem hasR_nil (n:Int):¬ hasR [] n:=fun ⟨_,h,_⟩=>by cases h
theorem hasR_cons (x:Rn) (l:List Rn) (n:Int):hasR (x :: l) n ↔ (rnR x = true ∧ x.fr ≤ n ∧ n ≤ x.to) ∨ hasR l n:=by
 constructor
 · rintro ⟨r,hr,h⟩
   rcases List.mem_cons.1 hr with rfl|hr
   · exact .inl h
   · exact .inr ⟨r,hr,h⟩
 · rintro (h|⟨r,hr,h⟩)
   · exact ⟨x,List.mem_cons_self,h⟩
   · exact ⟨r,List.mem_cons_of_mem _ hr,h⟩
theorem hasR_app (l m:List Rn) (n:Int):hasR (l ++ m) n ↔ hasR l n ∨ hasR m n:=by
 induction l with
 | nil=>simp [hasR_nil]
 | cons x l ih=>rw [List.cons_append,hasR_cons,hasR_cons,ih,or_assoc]
theorem hasR_perm {l m:List Rn} (h:∀ r,r ∈ l ↔ r ∈ m) (n:Int):hasR l n ↔ hasR m n:=
 ⟨fun ⟨r,hr,q⟩=>⟨r,(h r).1 hr,q⟩,fun ⟨r,hr,q⟩=>⟨r,(h r).2 hr,q⟩⟩
theorem hasR_filter (l:List Rn) (n:Int):hasR (l.filter rnR) n ↔ hasR l n:=
 ⟨fun ⟨r,hr,q⟩=>⟨r,(List.mem_filter.1 hr).1,q⟩,fun ⟨r,hr,q⟩=>⟨r,List.mem_filter.2 ⟨hr,q.1⟩,q⟩⟩
theorem hasR_pos {l:List Rn} {n:Int} (h:hasR l n):1 ≤ n ∧ n ≤ 1099511627776:=by
 obtain ⟨r,_,h1,h2,h3⟩:=h
 have:=(rnR_iff r).1 h1
 omega
theorem rnsOk_nil:rnsOk []:=fun i hi=>by simp at hi
theorem rnsOk_cons (x:Rn) (l:List Rn):rnsOk (x :: l) ↔ rnR x = true ∧ (∀ y,l.head? = some y → x.to + 2 ≤ y.fr) ∧ rnsOk l:=by
 constructor
 · intro h
   refine ⟨(h 0 (by simp) (by simp)).1,fun y hy=>?_,fun i hi hi'=>?_⟩
   · cases l with
     | nil=>cases hy
     | cons z l=>
       cases hy
       have:=(h 1 (by simp) (by simp)).2 (by omega)
       simpa using this
   · have h1:=h (i + 1) (by simpa using hi) (by simpa using hi)
     simp only [List.getElem_cons_succ,Nat.add_sub_cancel] at h1
     refine ⟨h1.1,fun h0=>?_⟩
     have h2:=h1.2 (by omega)
     obtain ⟨j,rfl⟩:∃ j,i = j + 1:=⟨i - 1,by omega⟩
     simpa using h2
 · rintro ⟨h1,h2,h3⟩ i hi hi'
   cases i with
   | zero=>exact ⟨h1,fun q=>absurd q (Nat.lt_irrefl _)⟩
   | succ i=>
     have h4:=h3 i (by simpa using hi) (by simpa using hi)
     simp only [List.getElem_cons_succ,Nat.add_sub_cancel]
     refine ⟨h4.1,fun _=>?_⟩
     cases i with
     | zero=>
       cases l with
       | nil=>simp at hi
       | cons z l=>exact h2 z rfl
     | succ i=>
       have:=h4.2 (by omega)
       simpa using this
theorem rnsOk_low {x:Rn} {l:List Rn} (h:rnsOk (x :: l)) {n:Int} (hn:hasR l n):x.to + 2 ≤ n:=by
 induction l generalizing x with
 | nil=>exact absurd hn (hasR_nil n)
 | cons y l ih=>
   obtain ⟨h1,h2,h3⟩:=(rnsOk_cons _ _).1 h
   have h4:=h2 y rfl
   have h5:=(rnR_iff y).1 ((rnsOk_cons _ _).1 h3).1
   rcases (hasR_cons _ _ _).1 hn with q|q
   · omega
   · have:=ih h3 q
     omega
theorem rnsOk_uniq:∀ {l m:List Rn},rnsOk l → rnsOk m → (∀ n,hasR l n ↔ hasR m n) → l = m:=by
 intro l
 induction l with
 | nil=>
   intro m _ hm h
   cases m with
   | nil=>rfl
   | cons y m=>
     have hy:=((rnsOk_cons _ _).1 hm).1
     have hy':=(rnR_iff y).1 hy
     exact absurd ((h y.fr).2 ((hasR_cons _ _ _).2 (.inl ⟨hy,by omega,by omega⟩))) (hasR_nil _)
 | cons x l ih=>
   intro m hl hm h
   obtain ⟨hx,_,hl'⟩:=(rnsOk_cons _ _).1 hl
   have hx':=(rnR_iff x).1 hx
   cases m with
   | nil=>exact absurd ((h x.fr).1 ((hasR_cons _ _ _).2 (.inl ⟨hx,by omega,by omega⟩))) (hasR_nil _)
   | cons y m=>
     obtain ⟨hy,_,hm'⟩:=(rnsOk_cons _ _).1 hm
     have hy':=(rnR_iff y).1 hy
     have lowl:∀ n,hasR (x :: l) n → x.fr ≤ n ∧ (n ≤ x.to ∨ x.to + 2 ≤ n):=fun n hn=>by
       rcases (hasR_cons _ _ _).1 hn with q|q
       · omega
       · have:=rnsOk_low hl q;omega
     have lowm:∀ n,hasR (y :: m) n → y.fr ≤ n ∧ (n ≤ y.to ∨ y.to + 2 ≤ n):=fun n hn=>by
       rcases (hasR_cons _ _ _).1 hn with q|q
       · omega
       · have:=rnsOk_low hm q;omega
     have inl:∀ n,x.fr ≤ n → n ≤ x.to → hasR (x :: l) n:=fun n a b=>(hasR_cons _ _ _).2 (.inl ⟨hx,a,b⟩)
     have inm:∀ n,y.fr ≤ n → n ≤ y.to → hasR (y :: m) n:=fun n a b=>(hasR_cons _ _ _).2 (.inl ⟨hy,a,b⟩)
     have e1:x.fr = y.fr:=by
       have a:=lowm _ ((h x.fr).1 (inl _ (by omega) (by omega)))
       have b:=lowl _ ((h y.fr).2 (inm _ (by omega) (by omega)))
       omega
     have e2:x.to = y.to:=by
       rcases Int.lt_trichotomy x.to y.to with q|q|q
       · have:=lowl _ ((h (x.to + 1)).2 (inm _ (by omega) (by omega)));omega
       · exact q
       · have:=lowm _ ((h (y.to + 1)).1 (inl _ (by omega) (by omega)));omega
     have e:x = y:=by cases x;cases y;simp only at e1 e2;rw [e1,e2]
     subst e
     rw [ih hl' hm' (fun n=>?_)]
     constructor
     · intro q
       have:=rnsOk_low hl q
       rcases (hasR_cons _ _ _).1 ((h n).1 ((hasR_cons _ _ _).2 (.inr q))) with z|z
       · omega
       · exact z
     · intro q
       have:=rnsOk_low hm q
       rcases (hasR_cons _ _ _).1 ((h n).2 ((hasR_cons _ _ _).2 (.inr q))) with z|z
       · omega
       · exact z
/-! ### merged -/
def mgC:Rn → List Rn → List Rn
 | c,[]=>[c]
 | c,r :: l=>if r.fr - c.to < 2 then mgC ⟨c.fr,max c.to r.to⟩ l else c :: mgC r l
def mergeR:List Rn → List Rn
 | []=>[]
 | x :: l=>mgC x l
theorem mgC_head:∀ (l:List Rn) (c:Rn),∃ z t,mgC c l = z :: t ∧ z.fr = c.fr:=by
 intro l
 induction l with
 | nil=>intro c;exact ⟨c,[],rfl,rfl⟩
 | cons r l ih=>
   intro c
   rw [mgC]
   split
   · obtain ⟨z,t,h1,h2⟩:=ih ⟨c.fr,max c.to r.to⟩
     exact ⟨z,t,h1,h2⟩
   · exact ⟨c,_,rfl,rfl⟩
/-- rising by where they begin -/
def srtR (l:List Rn):Prop:=l.Pairwise (fun a b=>a.fr ≤ b.fr)
theorem mgC_ok:∀ (l:List Rn) (c:Rn),srtR (c :: l) → (∀ r ∈ c :: l,rnR r = true) → rnsOk (mgC c l) ∧ ∀ n,hasR (mgC c l) n ↔ hasR (c :: l) n:=by
 intro l
 induction l with
 | nil=>
   intro c _ h
   exact ⟨(rnsOk_cons c []).2 ⟨h c (by simp),fun y hy=>by simp at hy,rnsOk_nil⟩,fun n=>Iff.rfl⟩
 | cons r l ih=>
   intro c hs h
   have hc:=h c (by simp)
   have hr:=h r (by simp)
   have hc':=(rnR_iff c).1 hc
   have hr':=(rnR_iff r).1 hr
   obtain ⟨s1,s2⟩:=List.pairwise_cons.1 hs
   have s3:=s1 r (by simp)
   obtain ⟨s4,s5⟩:=List.pairwise_cons.1 s2
   rw [mgC]
   split
   · rename_i g
     have hm:rnR ⟨c.fr,max c.to r.to⟩ = true:=(rnR_iff _).2 (by simp only;omega)
     have:=ih ⟨c.fr,max c.to r.to⟩ (List.pairwise_cons.2 ⟨fun z hz=>s1 z (List.mem_cons_of_mem _ hz),s5⟩) (fun z hz=>by
       rcases List.mem_cons.1 hz with rfl|hz
       · exact hm
       · exact h z (by simp [hz]))
     refine ⟨this.1,fun n=>?_⟩
     rw [this.2 n,hasR_cons,hasR_cons,hasR_cons]
     simp only [hm,hc,hr,true_and]
     constructor
     · rintro (q|q)
       · by_cases z:n ≤ c.to
         · exact .inl ⟨q.1,z⟩
         · exact .inr (.inl (by omega))
       · exact .inr (.inr q)
     · rintro (q|q|q)
       · exact .inl (by omega)
       · exact .inl (by omega)
       · exact .inr q
   · rename_i g
     have:=ih r s2 (fun z hz=>h z (List.mem_cons_of_mem _ hz))
     obtain ⟨z,t,e1,e2⟩:=mgC_head l r
     refine ⟨(rnsOk_cons _ _).2 ⟨hc,fun y hy=>?_,this.1⟩,fun n=>?_⟩
     · rw [e1] at hy
       cases hy
       omega
     · rw [hasR_cons,this.2 n,hasR_cons c]
theorem mergeR_ok {l:List Rn} (hs:srtR l) (h:∀ r ∈ l,rnR r = true):rnsOk (mergeR l) ∧ ∀ n,hasR (mergeR l) n ↔ hasR l n:=by
 cases l with
 | nil=>exact ⟨rnsOk_nil,fun n=>Iff.rfl⟩
 | cons x l=>exact mgC_ok l x hs h
theorem mgC_len:∀ (l:List Rn) (c:Rn),(mgC c l).length ≤ l.length + 1:=by
 intro l
 induction l with
 | nil=>intro c;simp [mgC]
 | cons r l ih=>
   intro c
   rw [mgC]
   split
   · have:=ih ⟨c.fr,max c.to r.to⟩;simp;omega
   · have:=ih r;simp;omega
theorem mergeR_len (l:List Rn):(mergeR l).length ≤ l.length:=by
 cases l with
 | nil=>exact Nat.le_refl _
 | cons x l=>exact mgC_len l x
/-! ### the right list of runs -/
def insF:List Rn → Rn → List Rn
 | [],x=>[x]
 | y :: l,x=>if x.fr ≤ y.fr then x :: y :: l else y :: insF l x
theorem insF_mem:∀ (l:List Rn) (x r:Rn),r ∈ insF l x ↔ r = x ∨ r ∈ l:=by
 intro l
 induction l with
 | nil=>intro x r;simp [insF]
 | cons y l ih=>
   intro x r
   rw [insF]
   split
   · simp
   · simp only [List.mem_cons,ih]
     constructor
     · rintro (h|h|h) <;> simp [h]
     · rintro (h|h|h) <;> simp [h]
theorem insF_srt:∀ (l:List Rn) (x:Rn),srtR l → srtR (insF l x):=by
 intro l
 induction l with
 | nil=>intro x _;simp [insF,srtR]
 | cons y l ih=>
   intro x h
   obtain ⟨h1,h2⟩:=List.pairwise_cons.1 h
   rw [insF]
   split
   · rename_i g
     refine List.pairwise_cons.2 ⟨fun z hz=>?_,h⟩
     rcases List.mem_cons.1 hz with rfl|hz
     · exact g
     · have:=h1 z hz;omega
   · refine List.pairwise_cons.2 ⟨fun z hz=>?_,ih x h2⟩
     rcases (insF_mem l x z).1 hz with rfl|hz
     · omega
     · exact h1 z hz
theorem insF_len:∀ (l:List Rn) (x:Rn),(insF l x).length = l.length + 1:=by
 intro l
 induction l with
 | nil=>intro x;rfl
 | cons y l ih=>intro x;rw [insF];split <;> simp [ih]
def srtF (l:List Rn):List Rn:=l.foldr (fun x a=>insF a x) []
theorem srtF_mem:∀ (l:List Rn) (r:Rn),r ∈ srtF l ↔ r ∈ l:=by
 intro l
 induction l with
 | nil=>intro _;rfl
 | cons x l ih=>intro r;show r ∈ insF (srtF l) x ↔ _;rw [insF_mem,ih,List.mem_cons]
theorem srtF_srt:∀ (l:List Rn),srtR (srtF l):=by
 intro l
 induction l with
 | nil=>exact List.Pairwise.nil
 | cons x l ih=>exact insF_srt _ _ ih
theorem srtF_len:∀ (l:List Rn),(srtF l).length = l.length:=by
 intro l
 induction l with
 | nil=>rfl
 | cons x l ih=>show (insF (srtF l) x).length = _;rw [insF_len,ih];rfl
def ofR (l:List Rn):List Rn:=mergeR (srtF (l.filter rnR))
theorem ofR_ok (l:List Rn):rnsOk (ofR l):=(mergeR_ok (srtF_srt _) (fun _ hr=>(List.mem_filter.1 ((srtF_mem _ _).1 hr)).2)).1
theorem ofR_has (l:List Rn) (n:Int):hasR (ofR l) n ↔ hasR l n:=by
 unfold ofR
 rw [(mergeR_ok (srtF_srt _) (fun _ hr=>(List.mem_filter.1 ((srtF_mem _ _).1 hr)).2)).2 n,hasR_perm (srtF_mem _) n,hasR_filter]
theorem ofR_len (l:List Rn):(ofR l).length ≤ l.length:=by
 have h1:=mergeR_len (srtF (l.filter rnR))
 rw [srtF_len] at h1
 exact Nat.le_trans h1 (List.length_filter_le _ _)
/-- a right list that has just what a list has is its right list -/
theorem ofR_eq {l m:List Rn} (h:rnsOk m) (e:∀ n,hasR m n ↔ hasR l n):ofR l = m:=
 rnsOk_uniq (ofR_ok l) h (fun n=>(ofR_has l n).trans (e n).symm)
theorem ofR_id {l:List Rn} (h:rnsOk l):ofR l = l:=ofR_eq h (fun _=>Iff.rfl)
theorem ofR_sorted {l s:List Rn} (hs:srtR s) (h:∀ r,r ∈ s ↔ r ∈ l.filter rnR):mergeR s = ofR l:=by
 have:=mergeR_ok hs (fun r hr=>(List.mem_filter.1 ((h r).1 hr)).2)
 refine (ofR_eq this.1 (fun n=>?_)).symm
 rw [this.2 n,hasR_perm h n,hasR_filter]
end Go.Proofs.YtfcpkegmdlchhaaGreat
