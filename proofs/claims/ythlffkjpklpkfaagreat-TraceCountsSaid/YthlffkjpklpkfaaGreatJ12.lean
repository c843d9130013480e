/- Texts joined: IcR Law19P IcLR FcR. -/
import Derived.Test.YthlffkjpklpkfaaGreatJ11
import Derived.Test.YthlffkjpklpkfaaGreatJ09
import Derived.Test.YthlffkjpklpkfaaGreatJ07
import Derived.Test.YthlffkjpklpkfaaGreatJ10
set_option maxRecDepth 10000
set_option maxHeartbeats 8000000
namespace Go.Proofs.YthlffkjpklpkfaaGreat
open Go.RowKit
/-- all but the key, read; what is left, and the first error -/
def restSt (k:ByteArray) (l:List UInt8) (e:Int):It × List UInt8 × Int:=
 let a:=withinSt 1 16 l e
 let b:=withinSt 1 1099511627776 a.2.1 a.2.2
 let c:=withinSt 1 1099511627776 b.2.1 b.2.2
 let d:=withinSt 0 255 c.2.1 c.2.2
 let f:=withinSt 0 1 d.2.1 d.2.2
 let g:=textSt 64 f.2.1 f.2.2
 (⟨k,a.1,b.1,c.1,d.1,f.1 == 1,⟨g.1.toArray⟩⟩,g.2.1,g.2.2)
section
theorem ic_rest (k:ByteArray) (l:List UInt8) (e:Int):FnM Tryz.prog 150 [.aggK rdC .aggN,sC k] [(1000,rdBox l e)] (itC (restSt k l e).1) [(1000,rdBox (restSt k l e).2.1 (restSt k l e).2.2)]:=by
 dsimp only [restSt]
 have h1:=r_Within l e 1 16
 generalize withinSt 1 16 l e = a at *
 have h2:=r_Within a.2.1 a.2.2 1 1099511627776
 generalize withinSt 1 1099511627776 a.2.1 a.2.2 = b at *
 have h3:=r_Within b.2.1 b.2.2 1 1099511627776
 generalize withinSt 1 1099511627776 b.2.1 b.2.2 = c at *
 have h4:=r_Within c.2.1 c.2.2 0 255
 generalize withinSt 0 255 c.2.1 c.2.2 = d at *
 have h5:=r_Bool d.2.1 d.2.2
 generalize withinSt 0 1 d.2.1 d.2.2 = f at *
 have h6:=r_Text f.2.1 f.2.2 64
 generalize textSt 64 f.2.1 f.2.2 = g at *
 refine fmi Tryz.func150 Tryz.ntmps150 ?_
 (have kr1:=h1;have kr2:=h2;have kr3:=h3;have kr4:=h4;have kr5:=h5;have kr6:=h6;refine w0 ?_;(repeat' first|refine W2.mk ?_ ?_|refine W1.mk fun hc=>?_);all_goals clear kr6 kr5 kr4 kr3 kr2 kr1)
 (refine ⟨(by first|exact .inl rfl|exact .inr rfl),resM1 [(1000,1000)] rfl rfl ?_ ?_⟩;(focus (repeat (first|exact AllX.nil|(refine AllX.cons rfl ?_ ?_;(focus first|rfl|skip))))))
 exact rvm_cellA inferInstance inferInstance rfl rfl rfl rfl rfl rfl
theorem restSt_suf (k:ByteArray) (l:List UInt8) (e:Int):(restSt k l e).2.1 <:+ l:=by
 dsimp only [restSt]
 exact (textSt_suf _ _ _).trans ((withinSt_suf _ _ _ _).trans ((withinSt_suf _ _ _ _).trans ((withinSt_suf _ _ _ _).trans ((withinSt_suf _ _ _ _).trans (withinSt_suf _ _ _ _)))))
theorem ref_more (k:ByteArray) (b l:List UInt8) (e:Int) (hs:l <:+ b) (hb:b.length ≤ 1000000000000):FnM Tryz.prog 139 [rdC,sC k] [(1000,rrBox b l e)] (itC (restSt k l e).1) [(1000,rrBox b (restSt k l e).2.1 (restSt k l e).2.2)]:=by
 dsimp only [restSt]
 have h1:=rr_Within b l e hs hb 1 16
 replace hs:=(withinSt_suf 1 16 l e).trans hs
 generalize withinSt 1 16 l e = a at *
 have h2:=rr_Within b a.2.1 a.2.2 hs hb 1 1099511627776
 replace hs:=(withinSt_suf 1 1099511627776 a.2.1 a.2.2).trans hs
 generalize withinSt 1 1099511627776 a.2.1 a.2.2 = b2 at *
 have h3:=rr_Within b b2.2.1 b2.2.2 hs hb 1 1099511627776
 replace hs:=(withinSt_suf 1 1099511627776 b2.2.1 b2.2.2).trans hs
 generalize withinSt 1 1099511627776 b2.2.1 b2.2.2 = c at *
 have h4:=rr_Within b c.2.1 c.2.2 hs hb 0 255
 replace hs:=(withinSt_suf 0 255 c.2.1 c.2.2).trans hs
 generalize withinSt 0 255 c.2.1 c.2.2 = d at *
 have h5:=rr_Within b d.2.1 d.2.2 hs hb 0 1
 replace hs:=(withinSt_suf 0 1 d.2.1 d.2.2).trans hs
 generalize withinSt 0 1 d.2.1 d.2.2 = f at *
 have h6:=rr_Text b f.2.1 f.2.2 hs hb 64
 generalize textSt 64 f.2.1 f.2.2 = g at *
 refine fmi Tryz.func139 Tryz.ntmps139 ?_
 (have kr1:=h1;have kr2:=h2;have kr3:=h3;have kr4:=h4;have kr5:=h5;have kr6:=h6;refine w0 ?_;(repeat' first|refine W2.mk ?_ ?_|refine W1.mk fun hc=>?_);all_goals clear kr6 kr5 kr4 kr3 kr2 kr1)
 (refine ⟨(by first|exact .inl rfl|exact .inr rfl),resM1 [(1000,1000)] rfl rfl ?_ ?_⟩;(focus (repeat (first|exact AllX.nil|(refine AllX.cons rfl ?_ ?_;(focus first|rfl|skip))))))
 exact rvm_cellA inferInstance inferInstance rfl rfl rfl rfl rfl rfl
end
theorem rest_put {x:It} (h:itR x = true) (r:List UInt8):restSt x.key (restB x ++ r) 0 = (x,r,0):=by
 obtain ⟨h1,h2,_,_⟩:=itR_nums h
 simp only [itR,keyR,verR,Bool.and_eq_true,decide_eq_true_eq] at h
 obtain ⟨⟨_,h3⟩,h4⟩:=h
 simp only [restNums,List.mem_cons,List.not_mem_nil,or_false,forall_eq_or_imp,forall_eq] at h1
 obtain ⟨a1,a2,a3,a4,a5⟩:=h1
 have e:restB x ++ r = numI x.rep ++ (numI x.cnt ++ (numI x.rank ++ (numI x.prio ++ (numI (if x.dead then 1 else 0) ++ (textB x.body ++ r))))):=by
   simp [restB,restNums,List.append_assoc]
 rw [e]
 dsimp only [restSt]
 rw [within_put a1 (by omega) (by omega)]
 dsimp only
 rw [within_put a2 (by omega) (by omega)]
 dsimp only
 rw [within_put a3 (by omega) (by omega)]
 dsimp only
 rw [within_put a4 (by omega) (by omega)]
 dsimp only
 rw [within_put a5 (by split <;> omega) (by split <;> omega)]
 dsimp only
 rw [text_put (by omega) (by omega),ba_eta]
 obtain ⟨k,a,b,c,d,f,g⟩:=x
 cases f <;> rfl
theorem rest_back {k:ByteArray} {l:List UInt8} {e:Int} (h:(restSt k l e).2.2 = 0):e = 0 ∧ l = restB (restSt k l e).1 ++ (restSt k l e).2.1 ∧ (restSt k l e).1.key = k:=by
 dsimp only [restSt] at h ⊢
 obtain ⟨g1,_,g2⟩:=text_back h
 obtain ⟨f1,f2,f3,f4,f5⟩:=within_back g1
 obtain ⟨d1,_,_,_,d5⟩:=within_back f1
 obtain ⟨c1,_,_,_,c5⟩:=within_back d1
 obtain ⟨b1,_,_,_,b5⟩:=within_back c1
 obtain ⟨a1,_,_,_,a5⟩:=within_back b1
 refine ⟨a1,?_,rfl⟩
 generalize textSt 64 _ _ = g at *
 generalize withinSt 0 1 _ _ = f at *
 generalize withinSt 0 255 _ _ = d at *
 generalize withinSt 1 1099511627776 _ _ = c at *
 generalize withinSt 1 1099511627776 _ _ = b at *
 generalize withinSt 1 16 _ _ = a at *
 have hf:(if (f.1 == 1) = true then (1:Int) else 0) = f.1:=by
   by_cases h:f.1 = 1
   · simp [h]
   · simp [h];omega
 simp only [restB,restNums,List.flatMap_cons,List.flatMap_nil,List.append_nil,hf,List.append_assoc]
 rw [← g2,← f5,← d5,← c5,← b5]
 exact a5
theorem within_rng0 {most:Int} (h:0 ≤ most) (l:List UInt8) (e:Int):0 ≤ (withinSt 0 most l e).1 ∧ (withinSt 0 most l e).1 ≤ most:=by
 by_cases he:e = 0
 · subst he
   rw [withinSt_0]
   split
   · exact ⟨by simp,h⟩
   · split
     · exact ⟨by simp,h⟩
     · simp only;omega
 · rw [withinSt_e he];exact ⟨by simp,h⟩
theorem text_len16 (l:List UInt8) (e:Int):(textSt 16 l e).1.length ≤ 16:=by
 unfold textSt
 have:=within_rng0 (most:=16) (by omega) l e
 split
 · simp
 · split
   · simp
   · rw [List.length_take];omega
/-- the next key of a list: how much is as before, the key, what is left, and the first error -/
def rdKey (was:ByteArray) (l:List UInt8) (e:Int):Int × ByteArray × List UInt8 × Int:=
 let s:=withinSt 0 was.size l e
 let t:=textSt 16 s.2.1 s.2.2
 (s.1,was.extract 0 s.1.toNat ++ ⟨t.1.toArray⟩,t.2.1,t.2.2)
def rdsGo:Nat → ByteArray → Bool → List It → List UInt8 → Int → List It × Bool × List UInt8 × Int
 | 0,_,f,acc,l,e=>(acc,f,l,e)
 | n + 1,was,f,acc,l,e=>
   if e ≠ 0 then (acc,f,l,e) else
     let q:=rdKey was l e
     let x:=restSt q.2.1 q.2.2.1 q.2.2.2
     rdsGo n q.2.1 (f && itR x.1 && ((alike was q.2.1:Int) == q.1)) (acc ++ [x.1]) x.2.1 x.2.2
def rdIn (l:List UInt8) (e:Int):List It × Bool × List UInt8 × Int:=
 let s:=withinSt 0 4096 l e
 rdsGo s.1.toNat s0 true [] s.2.1 s.2.2
def finI (r:List It × Bool × List UInt8 × Int):List It × Int:=
 if endSt r.2.2.1 r.2.2.2 ≠ 0 then ([],endSt r.2.2.1 r.2.2.2) else if r.2.1 = false then ([],11) else (r.1,0)
def rdItems (b:List UInt8):List It × Int:=finI (rdIn b 0)
theorem rdKey_size (was:ByteArray) (l:List UInt8) (e:Int):(rdKey was l e).2.1.size ≤ was.size + 16 ∧ 0 ≤ (rdKey was l e).1 ∧ (rdKey was l e).1 ≤ was.size:=by
 dsimp only [rdKey]
 have h1:=within_rng0 (most:=(was.size:Int)) (by omega) l e
 have h2:=text_len16 (withinSt 0 was.size l e).2.1 (withinSt 0 was.size l e).2.2
 refine ⟨?_,h1⟩
 rw [ByteArray.size_append,ByteArray.size_extract]
 show _ + (textSt 16 _ _).1.toArray.size ≤ _
 rw [List.size_toArray]
 omega
section
theorem icode_ReadItems (b:List UInt8) (hb:b.length ≤ 1000000000):Fn Tryz.prog 112 [bytesB b] (.tup2 (.own 87 7 ((rdItems b).1.map itP)) (inR (rdItems b).2)):=by
 generalize hQ:rdItems b = Q at *
 dsimp only [rdItems,rdIn] at hQ
 have h1:=r_Within b 0 0 4096
 have hn:=within_rng0 (most:=4096) (by omega) b 0
 generalize withinSt 0 4096 b 0 = s at *
 obtain ⟨n,l0,e0⟩:=s
 simp only at h1 hn hQ
 obtain ⟨hn0,hn1⟩:=hn
 obtain ⟨n,rfl⟩:=Int.eq_ofNat_of_zero_le hn0
 rw [Int.toNat_natCast] at hQ
 generalize hR:rdsGo n s0 true [] l0 e0 = R at *
 refine fi Tryz.func112 Tryz.ntmps112 ?_
 (have kn1:=v_New b hb;have kr1:=h1;refine w0 ?_;(repeat' first|refine W2.mk ?_ ?_|refine W1.mk fun hc=>?_);all_goals clear kr1 kn1)
 refine AW_le (Le_nil 6 600 87 7 rfl rfl) ?_
 refine AW_loopP (X:=Nat × ByteArray × Bool × List It × List UInt8 × Int) (fun x=>x.1 ≤ n ∧ x.2.1.size ≤ 16 * x.1 ∧ x.2.2.2.1.length ≤ x.1 ∧ rdsGo (n - x.1) x.2.1 x.2.2.1 x.2.2.2.1 x.2.2.2.2.1 x.2.2.2.2.2 = R)
   (fun x=>mkSt [(4,.ptr 4 0 0),(5,iC .i64 (n:Nat)),(6,.row 600 0),(7,sC x.2.1),(8,bC x.2.2.1),(9,iC .i64 (x.1:Nat))] [(4,.box 215 [.ptr 15 0 0]),(15,rdBox x.2.2.2.2.1 x.2.2.2.2.2),(600,.row 87 7 (x.2.2.2.1.map itP))]) (fun x=>n - x.1) (0,s0,true,[],l0,e0) ⟨Nat.zero_le _,(by decide:s0.size ≤ 0),Nat.le_refl _,hR⟩ ?_ ?_
 · exact le_auto
 · rintro ⟨i,was,f,acc,l,e⟩ ⟨hi,hws,hacc,hR⟩
   simp only at hi hws hacc hR ⊢
   have hE:=r_Err l e
   have hD:=r_End l e
   by_cases hlt:i < n
   · by_cases he:e = 0
     · subst he
       obtain ⟨m,hm⟩:∃ m,n - i = m + 1:=⟨n - i - 1,by omega⟩
       rw [hm,rdsGo,if_neg (by simp)] at hR
       dsimp only at hR
       have hks:=rdKey_size was l 0
       have h2:=r_Within l 0 0 (was.size:Int)
       have h3:=r_Text (withinSt 0 was.size l 0).2.1 (withinSt 0 was.size l 0).2.2 16
       have h23:rdKey was l 0 = ((withinSt 0 was.size l 0).1,was.extract 0 (withinSt 0 was.size l 0).1.toNat ++ ⟨(textSt 16 (withinSt 0 was.size l 0).2.1 (withinSt 0 was.size l 0).2.2).1.toArray⟩,(textSt 16 (withinSt 0 was.size l 0).2.1 (withinSt 0 was.size l 0).2.2).2.1,(textSt 16 (withinSt 0 was.size l 0).2.1 (withinSt 0 was.size l 0).2.2).2.2):=rfl
       have hx:=text_len16 (withinSt 0 was.size l 0).2.1 (withinSt 0 was.size l 0).2.2
       rw [h23] at hR hks
       clear h23
       generalize withinSt 0 was.size l 0 = s at *
       generalize textSt 16 s.2.1 s.2.2 = t at *
       obtain ⟨sm,l1,e1⟩:=s
       obtain ⟨tx,l2,e2⟩:=t
       simp only at hR hks h2 h3 hx
       obtain ⟨hk1,hk2,hk3⟩:=hks
       obtain ⟨sm,rfl⟩:=Int.eq_ofNat_of_zero_le hk2
       rw [Int.toNat_natCast] at hR hk1
       have htx:(⟨tx.toArray⟩:ByteArray).size ≤ 16:=by show tx.toArray.size ≤ 16;rw [List.size_toArray];exact hx
       have hes:(was.extract 0 sm).size ≤ was.size:=by simp;omega
       have h4:=ic_rest (was.extract 0 sm ++ ⟨tx.toArray⟩) l2 e2
       have h6:=key_Common was (was.extract 0 sm ++ ⟨tx.toArray⟩) (by omega)
       have hal:=alike_le was (was.extract 0 sm ++ ⟨tx.toArray⟩)
       have hcs:(was.extract 0 (alike was (was.extract 0 sm ++ ⟨tx.toArray⟩))).size = alike was (was.extract 0 sm ++ ⟨tx.toArray⟩):=by simp;omega
       generalize was.extract 0 (alike was (was.extract 0 sm ++ ⟨tx.toArray⟩)) = cm at *
       generalize restSt (was.extract 0 sm ++ ⟨tx.toArray⟩) l2 e2 = x at *
       obtain ⟨x,l3,e3⟩:=x
       simp only at hR h4
       have h5:=item_Right x
       (have kr1:=hE;have kr2:=h2;have kr3:=h3;have km1:=(show FnMs [(1000,15)] _ _ _ _ _ _ from h4);have kc1:=h5;have kc2:=h6;refine w0 ?_;(repeat' first|refine W2.mk ?_ ?_|refine W1.mk fun hc=>?_);all_goals clear kc2 kc1 km1 kr3 kr2 kr1)
       all_goals
         refine ⟨(i + 1,was.extract 0 sm ++ ⟨tx.toArray⟩,f && itR x && ((alike was (was.extract 0 sm ++ ⟨tx.toArray⟩):Int) == sm),acc ++ [x],l3,e3),⟨by simp only;omega,by simp only;omega,by simp;omega,?_⟩,by simp only;omega,?_⟩
       all_goals first|(simp only;rw [show n - (i + 1) = m by omega];exact hR)|skip
       all_goals exact le_auto
     · have hR2:R = (acc,f,l,e):=by
         rw [← hR]
         cases n - i with
         | zero=>rfl
         | succ m=>rw [rdsGo,if_pos he]
       subst hR2
       (have kr1:=hE;have kr2:=hD;refine w0 ?_;(repeat' first|refine W2.mk ?_ ?_|refine W1.mk fun hc=>?_);all_goals clear kr2 kr1)
       · rw [finI,if_pos (by assumption)] at hQ
         subst hQ
         refine rt2 ?_ ?_
         · exact rv_nil rfl
         · exact rv_int rfl rfl
       · rw [finI,if_neg (by simp [*]),if_pos (by assumption)] at hQ
         subst hQ
         refine rt2 ?_ ?_
         · exact rv_nil rfl
         · exact rv_int rfl rfl
       · rw [finI,if_neg (by simp [*]),if_neg (by simp [*])] at hQ
         subst hQ
         refine rt2 ?_ ?_
         · exact rv_own rfl rfl rfl
         · exact rv_int rfl rfl
   · have hR2:R = (acc,f,l,e):=by
       rw [← hR,show n - i = 0 by omega];rfl
     subst hR2
     (have kr1:=hE;have kr2:=hD;refine w0 ?_;(repeat' first|refine W2.mk ?_ ?_|refine W1.mk fun hc=>?_);all_goals clear kr2 kr1)
     · rw [finI,if_pos (by assumption)] at hQ
       subst hQ
       refine rt2 ?_ ?_
       · exact rv_nil rfl
       · exact rv_int rfl rfl
     · rw [finI,if_neg (by simp [*]),if_pos (by assumption)] at hQ
       subst hQ
       refine rt2 ?_ ?_
       · exact rv_nil rfl
       · exact rv_int rfl rfl
     · rw [finI,if_neg (by simp [*]),if_neg (by simp [*])] at hQ
       subst hQ
       refine rt2 ?_ ?_
       · exact rv_own rfl rfl rfl
       · exact rv_int rfl rfl
theorem rdsGo_suf (n:Nat):∀ (was:ByteArray) (f:Bool) (acc:List It) (l:List UInt8) (e:Int),(rdsGo n was f acc l e).2.2.1 <:+ l:=by
 induction n with
 | zero=>intro was f acc l e;exact List.suffix_refl l
 | succ n ih=>
   intro was f acc l e
   unfold rdsGo
   split
   · exact List.suffix_refl l
   · exact (ih _ _ _ _ _).trans ((restSt_suf _ _ _).trans ((textSt_suf _ _ _).trans (withinSt_suf _ _ _ _)))
theorem ref_ReadIn (b l:List UInt8) (e:Int) (hs:l <:+ b) (hb:b.length ≤ 1000000000000):FnM Tryz.prog 101 [rdC] [(1000,rrBox b l e)] (.tup2 (.row 3000 0) (bC (rdIn l e).2.1)) [(1000,rrBox b (rdIn l e).2.2.1 (rdIn l e).2.2.2),(3000,.row 87 7 ((rdIn l e).1.map itP))]:=by
 dsimp only [rdIn]
 have h1:=rr_Within b l e hs hb 0 4096
 have hn:=within_rng0 (most:=4096) (by omega) l e
 replace hs:=(withinSt_suf 0 4096 l e).trans hs
 generalize withinSt 0 4096 l e = s at *
 obtain ⟨n,l0,e0⟩:=s
 simp only at h1 hn hs ⊢
 obtain ⟨hn0,hn1⟩:=hn
 obtain ⟨n,rfl⟩:=Int.eq_ofNat_of_zero_le hn0
 rw [Int.toNat_natCast]
 generalize hR:rdsGo n s0 true [] l0 e0 = R at *
 refine fmi Tryz.func101 Tryz.ntmps101 ?_
 (have kr1:=h1;refine w0 ?_;(repeat' first|refine W2.mk ?_ ?_|refine W1.mk fun hc=>?_);all_goals clear kr1)
 refine AW_le (Le_nil 5 600 87 7 rfl rfl) ?_
 refine AW_loopP (X:=Nat × ByteArray × Bool × List It × List UInt8 × Int) (fun x=>x.1 ≤ n ∧ x.2.1.size ≤ 16 * x.1 ∧ x.2.2.2.1.length ≤ x.1 ∧ x.2.2.2.2.1 <:+ b ∧ rdsGo (n - x.1) x.2.1 x.2.2.1 x.2.2.2.1 x.2.2.2.2.1 x.2.2.2.2.2 = R)
   (fun x=>mkSt [(0,rdC),(4,iC .i64 (n:Nat)),(5,.row 600 0),(6,sC x.2.1),(7,bC x.2.2.1),(8,iC .i64 (x.1:Nat))] [(1000,rrBox b x.2.2.2.2.1 x.2.2.2.2.2),(600,.row 87 7 (x.2.2.2.1.map itP))]) (fun x=>n - x.1) (0,s0,true,[],l0,e0) ⟨Nat.zero_le _,(by decide:s0.size ≤ 0),Nat.le_refl _,hs,hR⟩ ?_ ?_
 · exact le_auto
 · rintro ⟨i,was,f,acc,l,e⟩ ⟨hi,hws,hacc,hs,hR⟩
   simp only at hi hws hacc hR hs ⊢
   by_cases hlt:i < n
   · by_cases he:e = 0
     · subst he
       obtain ⟨m,hm⟩:∃ m,n - i = m + 1:=⟨n - i - 1,by omega⟩
       rw [hm,rdsGo,if_neg (by simp)] at hR
       dsimp only at hR
       have hks:=rdKey_size was l 0
       have h2:=rr_Within b l 0 hs hb 0 (was.size:Int)
       replace hs:=(withinSt_suf 0 was.size l 0).trans hs
       have h3:=rr_Text b (withinSt 0 was.size l 0).2.1 (withinSt 0 was.size l 0).2.2 hs hb 16
       replace hs:=(textSt_suf 16 (withinSt 0 was.size l 0).2.1 (withinSt 0 was.size l 0).2.2).trans hs
       have h23:rdKey was l 0 = ((withinSt 0 was.size l 0).1,was.extract 0 (withinSt 0 was.size l 0).1.toNat ++ ⟨(textSt 16 (withinSt 0 was.size l 0).2.1 (withinSt 0 was.size l 0).2.2).1.toArray⟩,(textSt 16 (withinSt 0 was.size l 0).2.1 (withinSt 0 was.size l 0).2.2).2.1,(textSt 16 (withinSt 0 was.size l 0).2.1 (withinSt 0 was.size l 0).2.2).2.2):=rfl
       have hx:=text_len16 (withinSt 0 was.size l 0).2.1 (withinSt 0 was.size l 0).2.2
       rw [h23] at hR hks
       clear h23
       generalize withinSt 0 was.size l 0 = s at *
       generalize textSt 16 s.2.1 s.2.2 = t at *
       obtain ⟨sm,l1,e1⟩:=s
       obtain ⟨tx,l2,e2⟩:=t
       simp only at hR hks h2 h3 hx hs
       obtain ⟨hk1,hk2,hk3⟩:=hks
       obtain ⟨sm,rfl⟩:=Int.eq_ofNat_of_zero_le hk2
       rw [Int.toNat_natCast] at hR hk1
       have htx:(⟨tx.toArray⟩:ByteArray).size ≤ 16:=by show tx.toArray.size ≤ 16;rw [List.size_toArray];exact hx
       have hes:(was.extract 0 sm).size ≤ was.size:=by simp;omega
       have h4:=ref_more (was.extract 0 sm ++ ⟨tx.toArray⟩) b l2 e2 hs hb
       replace hs:=(restSt_suf (was.extract 0 sm ++ ⟨tx.toArray⟩) l2 e2).trans hs
       have h6:=ref_Alike was (was.extract 0 sm ++ ⟨tx.toArray⟩) (by omega)
       have hal:=alike_le was (was.extract 0 sm ++ ⟨tx.toArray⟩)
       generalize restSt (was.extract 0 sm ++ ⟨tx.toArray⟩) l2 e2 = x at *
       obtain ⟨x,l3,e3⟩:=x
       simp only at hR h4 hs
       have h5:=ritem_Right x
       (have kr1:=h2;have kr2:=h3;have kr3:=h4;have kc1:=h5;have kc2:=h6;refine w0 ?_;(repeat' first|refine W2.mk ?_ ?_|refine W1.mk fun hc=>?_);all_goals clear kc2 kc1 kr3 kr2 kr1)
       all_goals
         refine ⟨(i + 1,was.extract 0 sm ++ ⟨tx.toArray⟩,f && itR x && ((alike was (was.extract 0 sm ++ ⟨tx.toArray⟩):Int) == sm),acc ++ [x],l3,e3),⟨by simp only;omega,by simp only;omega,by simp;omega,hs,?_⟩,by simp only;omega,?_⟩
       all_goals first|(simp only;rw [show n - (i + 1) = m by omega];exact hR)|skip
       all_goals exact le_auto
     · have hR2:R = (acc,f,l,e):=by
         rw [← hR]
         cases n - i with
         | zero=>rfl
         | succ m=>rw [rdsGo,if_pos he]
       subst hR2
       (refine w0 ?_;(repeat' first|refine W2.mk ?_ ?_|refine W1.mk fun hc=>?_))
       refine ⟨.inl rfl,resM2 [(1000,1000),(600,3000)] rfl rfl ?_ (rvm rfl rfl) (rvm_bool rfl rfl)⟩
       (repeat (first|exact AllX.nil|(refine AllX.cons rfl ?_ ?_;(focus first|rfl|skip))))
   · have hR2:R = (acc,f,l,e):=by
       rw [← hR,show n - i = 0 by omega];rfl
     subst hR2
     (refine w0 ?_;(repeat' first|refine W2.mk ?_ ?_|refine W1.mk fun hc=>?_))
     refine ⟨.inl rfl,resM2 [(1000,1000),(600,3000)] rfl rfl ?_ (rvm rfl rfl) (rvm_bool rfl rfl)⟩
     (repeat (first|exact AllX.nil|(refine AllX.cons rfl ?_ ?_;(focus first|rfl|skip))))
theorem ref_ReadItems (b:List UInt8) (hb:b.length ≤ 1000000000):Fn Tryz.prog 63 [.per (bysP b)] (.tup2 (.own 87 7 ((rdItems b).1.map itP)) (inR (rdItems b).2)):=by
 have hs:b <:+ b:=List.suffix_refl b
 have hb':b.length ≤ 1000000000000:=by omega
 have h1:=ref_ReadIn b b 0 hs hb'
 have hsuf:(rdIn b 0).2.2.1 <:+ b:=(rdsGo_suf _ _ _ _ _ _).trans (withinSt_suf _ _ _ _)
 generalize hQ:rdItems b = Q at *
 unfold rdItems at hQ
 generalize rdIn b 0 = R at *
 obtain ⟨acc,f,l,e⟩:=R
 simp only at hQ h1 hsuf
 have h3:=rr_End b l e hsuf
 have e0:((b.length - b.length:Nat):Int) = 0:=by omega
 unfold rrBox at h1
 rw [e0] at h1
 refine fi Tryz.func63 Tryz.ntmps63 ?_
 (have km1:=(show FnMs [(1000,9),(3000,700)] _ _ _ _ _ _ from h1);have kr1:=h3;refine w0 ?_;(repeat' first|refine W2.mk ?_ ?_|refine W1.mk fun hc=>?_);all_goals clear kr1 km1)
 · rw [finI,if_pos (by assumption)] at hQ
   subst hQ
   refine rt2 ?_ ?_
   · exact rv_nil rfl
   · exact rv_int rfl rfl
 · rw [finI,if_neg (by simp [*]),if_pos (by assumption)] at hQ
   subst hQ
   refine rt2 ?_ ?_
   · exact rv_nil rfl
   · exact rv_int rfl rfl
 · rw [finI,if_neg (by simp [*]),if_neg (by simp [*])] at hQ
   subst hQ
   refine rt2 ?_ ?_
   · exact rv_own rfl rfl rfl
   · exact rv_int rfl rfl
end
def ba (l:List UInt8):ByteArray:=⟨l.toArray⟩
/-- a range read; what is left, and the first error -/
def rgSt (l:List UInt8) (e:Int):Rg × List UInt8 × Int:=
 let t:=textSt 17 l e
 let o:=withinSt 0 1 t.2.1 t.2.2
 if (o.1 == 1) = true then (⟨ba t.1,e0,true⟩,o.2.1,o.2.2) else
   let h:=textSt 17 o.2.1 o.2.2
   (⟨ba t.1,ba h.1,false⟩,h.2.1,h.2.2)
/-- as many things, read one behind the other, till an error -/
def lsSt {α:Type} (st:List UInt8 → Int → α × List UInt8 × Int):Nat → List α → List UInt8 → Int → List α × List UInt8 × Int
 | 0,acc,l,e=>(acc,l,e)
 | n + 1,acc,l,e=>if e ≠ 0 then (acc,l,e) else lsSt st n (acc ++ [(st l e).1]) (st l e).2.1 (st l e).2.2
def lisSt {α:Type} (st:List UInt8 → Int → α × List UInt8 × Int) (most:Int) (l:List UInt8) (e:Int):List α × List UInt8 × Int:=
 lsSt st (withinSt 0 most l e).1.toNat [] (withinSt 0 most l e).2.1 (withinSt 0 most l e).2.2
theorem lsSt_suf {α:Type} {st:List UInt8 → Int → α × List UInt8 × Int} (h:∀ l e,(st l e).2.1 <:+ l):∀ (n:Nat) (acc:List α) (l:List UInt8) (e:Int),(lsSt st n acc l e).2.1 <:+ l:=by
 intro n
 induction n with
 | zero=>intro acc l e;exact List.suffix_refl l
 | succ n ih=>
   intro acc l e
   unfold lsSt
   split
   · exact List.suffix_refl l
   · exact (ih _ _ _).trans (h _ _)
theorem lsSt_len {α:Type} {st:List UInt8 → Int → α × List UInt8 × Int}:∀ (n:Nat) (acc:List α) (l:List UInt8) (e:Int),(lsSt st n acc l e).1.length ≤ acc.length + n:=by
 intro n
 induction n with
 | zero=>intro acc l e;simp [lsSt]
 | succ n ih=>
   intro acc l e
   unfold lsSt
   split
   · simp
   · have:=ih (acc ++ [(st l e).1]) (st l e).2.1 (st l e).2.2
     simp at this ⊢;omega
instance (l:List Rg):Decidable (rgsOk l):=by unfold rgsOk rgOk;infer_instance
/-- the first error, or what was read if it is right -/
def finL {α:Type} (ok:List α → Prop) [DecidablePred ok] (r:List α × List UInt8 × Int):List α × Int:=
 if endSt r.2.1 r.2.2 ≠ 0 then ([],endSt r.2.1 r.2.2) else if ok r.1 then (r.1,0) else ([],11)
def rdRgs (b:List UInt8):List Rg × Int:=finL rgsOk (lisSt rgSt 4096 b 0)
section
theorem fc_span (l:List UInt8) (e:Int):FnM Tryz.prog 148 [.aggK rdC .aggN] [(1000,rdBox l e)] (rgC (rgSt l e).1) [(1000,rdBox (rgSt l e).2.1 (rgSt l e).2.2)]:=by
 dsimp only [rgSt]
 have h1:=r_Text l e 17
 generalize textSt 17 l e = t at *
 have h2:=r_Bool t.2.1 t.2.2
 generalize withinSt 0 1 t.2.1 t.2.2 = o at *
 have h3:=r_Text o.2.1 o.2.2 17
 generalize textSt 17 o.2.1 o.2.2 = h at *
 by_cases ho:(o.1 == 1) = true
 · rw [if_pos ho]
   rw [ho] at h2
   refine fmi Tryz.func148 Tryz.ntmps148 ?_
   (have kr1:=h1;have kr2:=h2;have kr3:=h3;refine w0 ?_;(repeat' first|refine W2.mk ?_ ?_|refine W1.mk fun hc=>?_);all_goals clear kr3 kr2 kr1)
   (refine ⟨(by first|exact .inl rfl|exact .inr rfl),resM1 [(1000,1000)] rfl rfl ?_ ?_⟩;(focus (repeat (first|exact AllX.nil|(refine AllX.cons rfl ?_ ?_;(focus first|rfl|skip))))))
   exact rvm_cellA inferInstance inferInstance rfl rfl rfl rfl rfl rfl
 · rw [if_neg ho]
   rw [show (o.1 == 1) = false by simpa using ho] at h2
   refine fmi Tryz.func148 Tryz.ntmps148 ?_
   (have kr1:=h1;have kr2:=h2;have kr3:=h3;refine w0 ?_;(repeat' first|refine W2.mk ?_ ?_|refine W1.mk fun hc=>?_);all_goals clear kr3 kr2 kr1)
   (refine ⟨(by first|exact .inl rfl|exact .inr rfl),resM1 [(1000,1000)] rfl rfl ?_ ?_⟩;(focus (repeat (first|exact AllX.nil|(refine AllX.cons rfl ?_ ?_;(focus first|rfl|skip))))))
   exact rvm_cellA inferInstance inferInstance rfl rfl rfl rfl rfl rfl
abbrev rgFC:Cnt:=.per (rawP (.func (.func 148) #[] #[]))
theorem fc_list_rg (most:Int) (hm:0 ≤ most) (hm2:most ≤ 1000000) (l:List UInt8) (e:Int):FnM Tryz.prog 147 [.aggK rdC .aggN,iC .i64 most,rgFC] [(1000,rdBox l e)] (.row 3000 0) [(1000,rdBox (lisSt rgSt most l e).2.1 (lisSt rgSt most l e).2.2),(3000,.row 29 3 ((lisSt rgSt most l e).1.map rgP))]:=by
 dsimp only [lisSt]
 have h1:=r_Within l e 0 most
 have hn:=within_rng0 (most:=most) hm l e
 generalize withinSt 0 most l e = s at *
 obtain ⟨n,l0,e0⟩:=s
 simp only at h1 hn ⊢
 obtain ⟨hn0,hn1⟩:=hn
 obtain ⟨n,rfl⟩:=Int.eq_ofNat_of_zero_le hn0
 rw [Int.toNat_natCast]
 generalize hR:lsSt rgSt n [] l0 e0 = R at *
 refine fmi Tryz.func147 Tryz.ntmps147 ?_
 (have kr1:=h1;refine w0 ?_;(repeat' first|refine W2.mk ?_ ?_|refine W1.mk fun hc=>?_);all_goals clear kr1)
 refine AW_le (Le_nil 8 600 29 3 rfl rfl) ?_
 refine AW_loopP (X:=Nat × List Rg × List UInt8 × Int) (fun x=>x.1 ≤ n ∧ x.2.1.length ≤ x.1 ∧ lsSt rgSt (n - x.1) x.2.1 x.2.2.1 x.2.2.2 = R)
   (fun x=>mkSt [(2,rgFC),(3,.ptr 3 0 0),(7,iC .i64 (n:Nat)),(8,.row 600 0),(9,iC .i64 (x.1:Nat))] [(3,.box 209 [rdC]),(1000,rdBox x.2.2.1 x.2.2.2),(600,.row 29 3 (x.2.1.map rgP))]) (fun x=>n - x.1) (0,[],l0,e0) ⟨Nat.zero_le _,Nat.le_refl _,hR⟩ ?_ ?_
 · exact le_auto
 · rintro ⟨i,acc,l,e⟩ ⟨hi,hacc,hR⟩
   simp only at hi hacc hR ⊢
   have hE:=r_Err l e
   by_cases hlt:i < n
   · by_cases he:e = 0
     · subst he
       obtain ⟨m,hm⟩:∃ m,n - i = m + 1:=⟨n - i - 1,by omega⟩
       rw [hm,lsSt,if_neg (by simp)] at hR
       have h2:=fc_span l 0
       generalize rgSt l 0 = q at *
       (have kr1:=hE;refine w0 ?_;(repeat' (first|refine W2.mk ?_ ?_|refine W1.mk fun hc=>?_|((first|apply AL_t rfl|apply AL_0 rfl|apply AD_t rfl|apply AD_0 rfl);(focus (first|(exact c_Vx [(1000,1000)] h2)|(apply u_g;(focus rfl);apply op_gyes rfl rfl rfl rfl rfl;first|(exact c_Vx [(1000,1000)] h2))));refine w0 ?_)));all_goals clear kr1)
       refine ⟨(i + 1,acc ++ [q.1],q.2.1,q.2.2),⟨by simp only;omega,by simp;omega,by simp only;rw [show n - (i + 1) = m by omega];exact hR⟩,by simp only;omega,?_⟩
       exact le_auto
     · have hR2:R = (acc,l,e):=by
         rw [← hR]
         cases n - i with
         | zero=>rfl
         | succ m=>rw [lsSt,if_pos he]
       subst hR2
       (have kr1:=hE;refine w0 ?_;(repeat' first|refine W2.mk ?_ ?_|refine W1.mk fun hc=>?_);all_goals clear kr1)
       refine ⟨.inl rfl,resM1 [(1000,1000),(600,3000)] rfl rfl ?_ (rvm rfl rfl)⟩
       (repeat (first|exact AllX.nil|(refine AllX.cons rfl ?_ ?_;(focus first|rfl|skip))))
   · have hR2:R = (acc,l,e):=by
       rw [← hR,show n - i = 0 by omega];rfl
     subst hR2
     (have kr1:=hE;refine w0 ?_;(repeat' first|refine W2.mk ?_ ?_|refine W1.mk fun hc=>?_);all_goals clear kr1)
     refine ⟨.inl rfl,resM1 [(1000,1000),(600,3000)] rfl rfl ?_ (rvm rfl rfl)⟩
     (repeat (first|exact AllX.nil|(refine AllX.cons rfl ?_ ?_;(focus first|rfl|skip))))
end
end Go.Proofs.YthlffkjpklpkfaaGreat
namespace Go.Proofs.YthlffkjpklpkfaaGreat
open Go.RowKit
section
theorem lisSt_len {α:Type} {st:List UInt8 → Int → α × List UInt8 × Int} {most:Int} (h:0 ≤ most) (l:List UInt8) (e:Int):((lisSt st most l e).1.length:Int) ≤ most:=by
 have h1:=lsSt_len (st:=st) (withinSt 0 most l e).1.toNat [] (withinSt 0 most l e).2.1 (withinSt 0 most l e).2.2
 have h2:=within_rng0 (most:=most) h l e
 unfold lisSt
 simp at h1
 omega
theorem fcode_ReadRanges (b:List UInt8) (hb:b.length ≤ 1000000000):Fn Tryz.prog 110 [bytesB b] (.tup2 (.own 29 3 ((rdRgs b).1.map rgP)) (inR (rdRgs b).2)):=by
 have h1:=fc_list_rg 4096 (by omega) (by omega) b 0
 have hn:=lisSt_len (st:=rgSt) (most:=4096) (by omega) b 0
 generalize hQ:rdRgs b = Q at *
 unfold rdRgs at hQ
 generalize lisSt rgSt 4096 b 0 = R at *
 obtain ⟨acc,l,e⟩:=R
 simp only at hQ h1 hn
 have h2:=r_End l e
 have h3:=rgs_Right acc (by omega) (decide (rgsOk acc)) (by simp)
 refine fi Tryz.func110 Tryz.ntmps110 ?_
 (have kn1:=v_New b hb;have km1:=(show FnMs [(1000,8),(3000,700)] _ _ _ _ _ _ from h1);have kr1:=h2;have kc1:=h3;refine w0 ?_;(repeat' first|refine W2.mk ?_ ?_|refine W1.mk fun hc=>?_);all_goals clear kc1 kr1 km1 kn1)
 · rw [finL,if_pos (by assumption)] at hQ
   subst hQ
   refine rt2 ?_ ?_
   · exact rv_nil rfl
   · exact rv_int rfl rfl
 · rw [finL,if_neg (by simp [*]),if_neg (by simp_all)] at hQ
   subst hQ
   refine rt2 ?_ ?_
   · exact rv_nil rfl
   · exact rv_int rfl rfl
 · rw [finL,if_neg (by simp [*]),if_pos (by simp_all)] at hQ
   subst hQ
   refine rt2 ?_ ?_
   · exact rv_own rfl rfl rfl
   · exact rv_int rfl rfl
theorem ref_ReadRanges (b:List UInt8) (hb:b.length ≤ 1000000000):Fn Tryz.prog 62 [.per (bysP b)] (.tup2 (.own 29 3 ((rdRgs b).1.map rgP)) (inR (rdRgs b).2)):=by
 have hs:b <:+ b:=List.suffix_refl b
 have hb':b.length ≤ 1000000000000:=by omega
 generalize hQ:rdRgs b = Q at *
 dsimp only [rdRgs,lisSt] at hQ
 have h1:=rr_Within b b 0 hs hb' 0 4096
 have hn:=within_rng0 (most:=4096) (by omega) b 0
 replace hs:=(withinSt_suf 0 4096 b 0).trans hs
 generalize withinSt 0 4096 b 0 = s at *
 obtain ⟨n,l0,e0'⟩:=s
 simp only at h1 hn hs hQ
 obtain ⟨hn0,hn1⟩:=hn
 obtain ⟨n,rfl⟩:=Int.eq_ofNat_of_zero_le hn0
 rw [Int.toNat_natCast] at hQ
 generalize hR:lsSt rgSt n [] l0 e0' = R at *
 have e0:((b.length - b.length:Nat):Int) = 0:=by omega
 unfold rrBox at h1
 rw [e0] at h1
 refine fi Tryz.func62 Tryz.ntmps62 ?_
 (have kr1:=h1;refine w0 ?_;(repeat' first|refine W2.mk ?_ ?_|refine W1.mk fun hc=>?_);all_goals clear kr1)
 refine AW_le (Le_nil 6 600 29 3 rfl rfl) ?_
 refine AW_loopP (X:=Nat × List Rg × List UInt8 × Int) (fun x=>x.1 ≤ n ∧ x.2.1.length ≤ x.1 ∧ x.2.2.1 <:+ b ∧ lsSt rgSt (n - x.1) x.2.1 x.2.2.1 x.2.2.2 = R)
   (fun x=>mkSt [(4,.ptr 11 0 0),(5,iC .i64 (n:Nat)),(6,.row 600 0),(7,iC .i64 (x.1:Nat))] [(11,rrBox b x.2.2.1 x.2.2.2),(600,.row 29 3 (x.2.1.map rgP))]) (fun x=>n - x.1) (0,[],l0,e0') ⟨Nat.zero_le _,Nat.le_refl _,hs,hR⟩ ?_ ?_
 · exact le_auto
 · clear h1 hR hs
   rintro ⟨i,acc,l,e⟩ ⟨hi,hacc,hs,hR⟩
   simp only at hi hacc hs hR ⊢
   have hD:=rr_End b l e hs
   by_cases hst:i < n ∧ e = 0
   · obtain ⟨hlt,he⟩:=hst
     subst he
     obtain ⟨m,hm⟩:∃ m,n - i = m + 1:=⟨n - i - 1,by omega⟩
     rw [hm,lsSt,if_neg (by simp)] at hR
     clear hQ hD
     dsimp only [rgSt] at hR
     have h2:=rr_Text b l 0 hs hb' 17
     replace hs:=(textSt_suf 17 l 0).trans hs
     generalize textSt 17 l 0 = t at *
     have h3:=rr_Within b t.2.1 t.2.2 hs hb' 0 1
     replace hs:=(withinSt_suf 0 1 t.2.1 t.2.2).trans hs
     generalize withinSt 0 1 t.2.1 t.2.2 = o at *
     by_cases ho:o.1 = 1
     · rw [if_pos (by simp [ho])] at hR
       rw [ho] at h3
       (have kr1:=h2;have kr2:=h3;refine w0 ?_;(repeat' first|refine W2.mk ?_ ?_|refine W1.mk fun hc=>?_);all_goals clear kr2 kr1)
       refine ⟨(i + 1,acc ++ [⟨ba t.1,ByteArray.mk #[],true⟩],o.2.1,o.2.2),⟨by simp only;omega,by simp;omega,hs,by simp only;rw [show n - (i + 1) = m by omega];exact hR⟩,by simp only;omega,?_⟩
       exact le_auto
     · rw [if_neg (by simp [ho])] at hR
       have h4:=rr_Text b o.2.1 o.2.2 hs hb' 17
       replace hs:=(textSt_suf 17 o.2.1 o.2.2).trans hs
       generalize textSt 17 o.2.1 o.2.2 = h at *
       (have kr1:=h2;have kr2:=h3;have kr3:=h4;refine w0 ?_;(repeat' first|refine W2.mk ?_ ?_|refine W1.mk fun hc=>?_);all_goals clear kr3 kr2 kr1)
       refine ⟨(i + 1,acc ++ [⟨ba t.1,ba h.1,false⟩],h.2.1,h.2.2),⟨by simp only;omega,by simp;omega,hs,by simp only;rw [show n - (i + 1) = m by omega];exact hR⟩,by simp only;omega,?_⟩
       (refine Le_mk ?_ ?_;(focus ((repeat (first|exact AllG.nil|(refine AllG.cons ?_ ?_;rotate_left)));(all_goals try (first|rfl|(refine eqI ?_;first|omega|(simp;done)|(simp;omega))|(refine eqBo ?_;first|(simp;done)|(simp [*];done))))));(focus ((repeat (first|exact AllB.nil|(refine AllB.cons ?_ ?_;rotate_left)));(all_goals try (first|rfl|(refine eqRw ?_;(rw [List.map_append] <;> rfl);done)|(refine eqMix ?_;(rw [List.map_append] <;> rfl);done))))))
       show Blk.row _ _ (acc.map rgP ++ [[_,_,rawP (.bool (o.1 == 1))]]) = _
       rw [show (o.1 == 1) = false by simpa using ho,List.map_append]
       rfl
   · have hR2:R = (acc,l,e):=by
       rw [← hR]
       by_cases he:e = 0
       · rw [show n - i = 0 by omega];rfl
       · cases n - i with
         | zero=>rfl
         | succ m=>rw [lsSt,if_pos he]
     subst hR2
     have h3:=rrgs_Right acc (by omega) (decide (rgsOk acc)) (by simp)
     by_cases hlt:i < n
     · have he:e ≠ 0:=fun q=>hst ⟨hlt,q⟩
       have hen:endSt l e ≠ 0:=by unfold endSt;rw [if_neg (fun q=>he q.1)];exact he
       rw [finL,if_pos hen] at hQ
       subst hQ
       (have kr1:=hD;have kc1:=h3;refine w0 ?_;(repeat' first|refine W2.mk ?_ ?_|refine W1.mk fun hc=>?_);all_goals clear kc1 kr1)
       refine rt2 ?_ ?_
       · exact rv_nil rfl
       · exact rv_int rfl rfl
     · (have kr1:=hD;have kc1:=h3;refine w0 ?_;(repeat' first|refine W2.mk ?_ ?_|refine W1.mk fun hc=>?_);all_goals clear kc1 kr1)
       · rw [finL,if_pos (by assumption)] at hQ
         subst hQ
         refine rt2 ?_ ?_
         · exact rv_nil rfl
         · exact rv_int rfl rfl
       · rw [finL,if_neg (by simp [*]),if_neg (by simp_all)] at hQ
         subst hQ
         refine rt2 ?_ ?_
         · exact rv_nil rfl
         · exact rv_int rfl rfl
       · rw [finL,if_neg (by simp [*]),if_pos (by simp_all)] at hQ
         subst hQ
         refine rt2 ?_ ?_
         · exact rv_own rfl rfl rfl
         · exact rv_int rfl rfl
end
end Go.Proofs.YthlffkjpklpkfaaGreat
