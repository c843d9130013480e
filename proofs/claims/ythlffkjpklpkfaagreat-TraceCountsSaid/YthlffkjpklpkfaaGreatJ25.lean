/- Texts joined: Law16K MsS MsV TcL TcS TcW. -/
import Derived.Test.YthlffkjpklpkfaaGreatJ16
import Derived.Test.YthlffkjpklpkfaaGreatJ07
import Derived.Test.YthlffkjpklpkfaaGreatJ24
import Derived.Test.YthlffkjpklpkfaaGreatJ10
import Derived.Test.YthlffkjpklpkfaaGreatJ19
import Derived.Lib.Join
import Derived.Test.YthlffkjpklpkfaaGreatJ08
import Derived.Shelf.Strings.Search3
import Derived.Shelf.Strings.OnBuilder
import Derived.Lib.IndexAny
set_option maxRecDepth 10000
set_option maxHeartbeats 8000000
namespace Go.Proofs.YthlffkjpklpkfaaGreat
open Go.RowKit
theorem longPcs_pcsSz {k:List Pc} {most:Int} (h:longPcs k most = false) (hm:most ≤ 1000000):pcsSz k ∧ fewK k:=by
 obtain ⟨h1,h2⟩:=longPcs_sz h
 have hq:∀ p ∈ k,knsTot p.set ∧ fewS p.set:=fun p hp=>by
   obtain ⟨_,_,h3⟩:=h2 p hp
   obtain ⟨g1,g2⟩:=longKns_sz h3
   refine ⟨⟨by omega,?_⟩,fun x hx=>by have:=g2 x hx;omega⟩
   have:∀ l:List Kn,(∀ k ∈ l,(k.runs.length:Int) ≤ 16) → (l.flatMap Kn.runs).length ≤ 16 * l.length:=by
     intro l
     induction l with
     | nil=>intro _;simp
     | cons x l ih=>
       intro h
       have h1:=h x List.mem_cons_self
       have h2:=ih (fun y hy=>h y (List.mem_cons_of_mem _ hy))
       rw [List.flatMap_cons,List.length_append,List.length_cons];omega
   have:=this _ g2
   omega
 exact ⟨⟨by omega,fun p hp=>(hq p hp).1⟩,fun p hp=>(hq p hp).2⟩
theorem knowB_len {k:List Pc} (h:pcsOk k) (hf:fewK k) (hl:k.length ≤ 30):(knowB k).length ≤ 50000000:=by
 have h1:=flat_lenC (B:=pcB) 1500040 k (fun p hp=>by
   have hfp:=hf p hp
   obtain ⟨i,hi,rfl⟩:=List.getElem_of_mem hp
   obtain ⟨a,b⟩:=pcsOk_get h hi
   exact pcB_len a b hfp)
 have h3:=numI_len (k.length:Int) (by omega)
 unfold knowB
 rw [List.length_append];omega
section
theorem rdKnow_sz (b:List UInt8):pcsSz (rdKnow b).1 ∧ fewK (rdKnow b).1:=by
 have h:=lis_pcSz b 0
 unfold rdKnow finL
 split
 · exact ⟨⟨by simp,by simp⟩,fun k hk=>by simp at hk⟩
 · split
   · exact h
   · exact ⟨⟨by simp,by simp⟩,fun k hk=>by simp at hk⟩
end
def longM (m:Msg):Bool:=longRgs m.flt 12 || (longPcs m.know 24 || (decide ((m.there.length:Int) > 600) || (longB m.its 24 || (decide ((m.rg.lo.size:Int) > 60) || decide ((m.rg.hi.size:Int) > 60)))))
section
theorem rm_Long (m:Msg):Fn Tryz.prog 6 [msC m] (boR (longM m)):=by
 have a1:=rgs_Long m.flt 12 (by decide)
 have a2:=rknow_Long m.know 24 (by decide)
 have a3:=item_Long m.its 24 (by decide)
 unfold longM
 generalize longRgs m.flt 12 = d1 at *
 generalize longPcs m.know 24 = d2 at *
 generalize longB m.its 24 = d3 at *
 refine fi Tryz.func6 Tryz.ntmps6 ?_
 (have kc1:=a1;have kc2:=a2;have kc3:=a3;refine w0 ?_;(repeat' first|refine W2.mk ?_ ?_|refine W1.mk fun hc=>?_);all_goals clear kc3 kc2 kc1)
 all_goals
   refine rt1 ?_
   refine rv_bool rfl ?_
   first|(simp [*];done)|(rw [Bool.eq_iff_iff];simp [*];done)|(rw [Bool.eq_iff_iff];simp [*];omega)
end
theorem itemsT_len:∀ (l:List It) (was:ByteArray),l.all itR = true → (itemsT was l).length ≤ 200 * l.length:=by
 intro l
 induction l with
 | nil=>intro was _;simp [itemsT]
 | cons x l ih=>
   intro was h
   rw [List.all_cons,Bool.and_eq_true] at h
   have h1:=itR_nums h.1
   have h2:=alike_le was x.key
   have q1:=numI_len ((alike was x.key:Nat):Int) (by omega)
   have q2:=textB_len (cutS x.key (alike was x.key)) (by rw [cutS_size];omega)
   have q3:=restB_len h.1
   have q4:=ih x.key h.2
   rw [cutS_size] at q2
   rw [itemsT,List.length_append,List.length_append,List.length_append,List.length_cons]
   omega
theorem itemsB_len {l:List It} (h:l.all itR = true) (hl:l.length ≤ 4096):(itemsB l).length ≤ 9 + 200 * l.length:=by
 have q1:=numI_len (l.length:Int) (by omega)
 have q2:=itemsT_len l s0 h
 unfold itemsB
 rw [List.length_append];omega
theorem longM_B {m:Msg} (h:longM m = false):MsB m ∧ m.know.length ≤ 24:=by
 unfold longM at h
 simp only [Bool.or_eq_false_iff] at h
 obtain ⟨h1,h2,h3,h4,_⟩:=h
 have hk:=longPcs_pcsSz h2 (by decide)
 have hkl:=(longPcs_sz h2).1
 have hf:m.flt.length ≤ 12:=by
   unfold longRgs at h1
   rw [Bool.or_eq_false_iff,decide_eq_false_iff_not] at h1
   omega
 have hi:m.its.length ≤ 24:=by
   unfold longB at h4
   rw [Bool.or_eq_false_iff,decide_eq_false_iff_not] at h4
   omega
 have ht:m.there.length ≤ 600:=by
   rw [decide_eq_false_iff_not] at h3
   omega
 refine ⟨⟨by omega,hk.1,hk.2,by omega,by omega,by omega,fun p hp=>?_⟩,by omega⟩
 have hkb:(if decide (pcsOk m.know) then knowB m.know else []).length ≤ 100000000:=by
   by_cases c:pcsOk m.know
   · rw [if_pos (decide_eq_true c)]
     have:=knowB_len c hk.2 (by omega);omega
   · rw [if_neg (by simp [c])];simp
 unfold prtP at hp
 by_cases c1:m.kind = 1
 · simp only [if_pos c1,List.mem_cons,List.not_mem_nil,or_false] at hp
   rcases hp with rfl|rfl|rfl
   · by_cases c:rgsOk m.flt
     · rw [if_pos (decide_eq_true c)]
       have:=rgsBy_len c (by omega);omega
     · rw [if_neg (by simp [c])];simp
   · exact hkb
   · omega
 simp only [if_neg c1] at hp
 by_cases c4:m.kind = 4
 · simp only [if_pos c4,List.mem_cons,List.not_mem_nil,or_false] at hp
   rcases hp with rfl|rfl
   · by_cases c:rgsOk [m.rg]
     · rw [if_pos (decide_eq_true c)]
       have:=rgsBy_len c (by simp);simp at this;omega
     · rw [if_neg (by simp [c])];simp
   · simp [oct]
 simp only [if_neg c4] at hp
 by_cases c5:m.kind = 5
 · simp only [if_pos c5,List.mem_cons,List.not_mem_nil,or_false] at hp
   rcases hp with rfl|rfl
   · by_cases c:m.its.all itR = true
     · rw [if_pos c]
       have:=itemsB_len c (by omega);omega
     · rw [if_neg c];simp
   · exact hkb
 · simp only [if_neg c5,List.not_mem_nil] at hp
/-- how big a message may be to be held against another -/
structure MsE (m:Msg):Prop where
 flt:m.flt.length ≤ 1000000
 ksz:pcsSz m.know
 its:m.its.length ≤ 1000000
theorem MsB.e {m:Msg} (h:MsB m):MsE m:=⟨by have:=h.flt;omega,h.ksz,by have:=h.its;omega⟩
theorem pcsSz_e:pcsSz []:=⟨by simp,fun p hp=>by simp at hp⟩
theorem ps_sz {m:Msg} {p:List (List UInt8)} (n1:m.flt = []) (n2:m.know = []) (n3:m.its = []) (n4:m.sum = 0) (h:(rdPs m p).2 = 0) :
   (rdPs m p).1.flt.length ≤ 4096 ∧ pcsSz (rdPs m p).1.know ∧ fewK (rdPs m p).1.know ∧ (rdPs m p).1.know.length ≤ 4096 ∧ (rdPs m p).1.its.length ≤ 4096 ∧ (rdPs m p).1.sum < 18446744073709551616:=by
 have few0:fewK []:=fun p hp=>by simp at hp
 unfold rdPs at h ⊢
 by_cases c1:m.kind = 1
 · simp only [if_pos c1] at h ⊢
   by_cases a:(rdRgs (p.getD 0 [])).2 ≠ 0
   · rw [if_pos a] at h;exact absurd h a
   simp only [if_neg a] at h ⊢
   by_cases b:(rdKnow (p.getD 1 [])).2 ≠ 0
   · rw [if_pos b] at h;exact absurd h b
   simp only [if_neg b] at h ⊢
   have q1:=(rdRgs_back (Decidable.not_not.1 a)).2.1
   have q2:=(rdKnow_back (Decidable.not_not.1 b)).2.1
   have q3:=rdKnow_sz (p.getD 1 [])
   exact ⟨by omega,q3.1,q3.2,by omega,by rw [n3];simp,by rw [n4];decide⟩
 simp only [if_neg c1] at h ⊢
 by_cases c4:m.kind = 4
 · simp only [if_pos c4] at h ⊢
   by_cases a:(rdRgs (p.getD 0 [])).2 ≠ 0
   · rw [if_pos a] at h;exact absurd h a
   simp only [if_neg a] at h ⊢
   by_cases b:(rdRgs (p.getD 0 [])).1.length = 1 ∧ (p.getD 1 []).length = 8
   · simp only [if_pos b] at h ⊢
     have:=numL_lt (p.getD 1 [])
     rw [b.2] at this
     exact ⟨by rw [n1];simp,by rw [n2];exact pcsSz_e,by rw [n2];exact few0,by rw [n2];simp,by rw [n3];simp,this⟩
   · rw [if_neg b] at h;simp at h
 simp only [if_neg c4] at h ⊢
 by_cases c5:m.kind = 5
 · simp only [if_pos c5] at h ⊢
   by_cases a:(rdItems (p.getD 0 [])).2 ≠ 0
   · rw [if_pos a] at h;exact absurd h a
   simp only [if_neg a] at h ⊢
   by_cases b:(rdKnow (p.getD 1 [])).2 ≠ 0
   · rw [if_pos b] at h;exact absurd h b
   simp only [if_neg b] at h ⊢
   have q1:=(rdItems_back (Decidable.not_not.1 a)).2.1
   have q2:=(rdKnow_back (Decidable.not_not.1 b)).2.1
   have q3:=rdKnow_sz (p.getD 1 [])
   exact ⟨by rw [n1];simp,q3.1,q3.2,by omega,q1,by rw [n4];decide⟩
 simp only [if_neg c5]
 exact ⟨by rw [n1];simp,by rw [n2];exact pcsSz_e,by rw [n2];exact few0,by rw [n2];simp,by rw [n3];simp,by rw [n4];decide⟩
theorem part_load {m:Msg} {p:List UInt8} (h:p ∈ msParts m):p.length ≤ (loadB m).length:=by
 have key:∀ l:List (List UInt8),p ∈ l → p.length ≤ (l.flatMap txB).length:=by
   intro l
   induction l with
   | nil=>intro h;simp at h
   | cons x l ih=>
     intro h
     rw [List.flatMap_cons,List.length_append]
     rcases List.mem_cons.1 h with e|e
     · subst e
       have:(txB p).length = (numB p.length).length + p.length:=by
         unfold txB textB
         rw [List.length_append,show (⟨p.toArray⟩:ByteArray).size = p.length by simp [ByteArray.size]]
       omega
     · have:=ih e;omega
 have:=key _ h
 unfold loadB
 rw [List.length_append];omega
/-- a message that was read is in bounds -/
theorem rdM_B {b:List UInt8} (hb:b.length ≤ 1000000) (h:(rdM b).2 = 0):MsB (rdM b).1 ∧ (rdM b).1.sum < 18446744073709551616:=by
 have hL:=openF_len b
 unfold rdM at h ⊢
 by_cases c:(openF b).2 ≠ 0
 · rw [if_pos c] at h;exact absurd h c
 rw [if_neg c] at h ⊢
 generalize (openF b).1 = L at *
 obtain ⟨r1,r2⟩:=load_back h
 rw [rdL_eq] at h r1 r2 ⊢
 have hn:=ns_same (rdHd L).1 (rdHd L).2.1 (rdHd L).2.2
 have hth:(rdHL L).1.there.length ≤ 1000000:=by
   show (rdNs (rdHd L).1 (rdHd L).2.1 (rdHd L).2.2).1.there.length ≤ 1000000
   rw [hn.2.2.2.2.2.1];exact Nat.zero_le _
 have n1:(rdHL L).1.flt = []:=hn.2.2.2.1
 have n2:(rdHL L).1.know = []:=hn.2.2.2.2.1
 have n3:(rdHL L).1.its = []:=hn.2.2.1
 have n4:(rdHL L).1.sum = 0:=hn.2.2.2.2.2.2.1
 have hpl:∀ p ∈ (rdHL L).2.1,p.length ≤ 1000000:=fun p hp=>by
   have h1:=(rdTs_len _ _ _).2.1 p hp
   have h2:=rdNs_len (rdHd L).1 (rdHd L).2.1 (rdHd L).2.2
   have h3:=rdHd_len L
   omega
 by_cases c1:endSt (rdHL L).2.2.1 (rdHL L).2.2.2 ≠ 0
 · rw [if_pos c1] at h;exact absurd h c1
 rw [if_neg c1] at h r1 r2 ⊢
 by_cases c2:(rdPs (rdHL L).1 (rdHL L).2.1).2 ≠ 0
 · rw [if_pos c2] at h;exact absurd h c2
 rw [if_neg c2] at h r1 r2 ⊢
 by_cases c3:¬ msR (rdPs (rdHL L).1 (rdHL L).2.1).1 = true
 · rw [if_neg c3] at h;simp at h
 replace c3:=Decidable.not_not.1 c3
 rw [if_pos c3] at r1 r2 ⊢
 obtain ⟨s1,s2,s3,s4,s5,s6⟩:=ps_sz n1 n2 n3 n4 (Decidable.not_not.1 c2)
 have st:=(ps_there (rdHL L).1 (rdHL L).2.1 1000000 hth hpl (by rw [n3];simp)).1
 refine ⟨⟨s1,s2,s3,s4,st,s5,fun p hp=>?_⟩,s6⟩
 have hI:=msR_iff (rdPs (rdHL L).1 (rdHL L).2.1).1 s5
 rw [c3] at hI
 have hI:=hI.symm
 simp only [Bool.and_eq_true] at hI
 rw [prt_ok hI.1.1.2] at hp
 have:=part_load hp
 rw [r1] at this
 omega
theorem joinL_eq:∀ l:List (List UInt8),Lib.join l [32] = joinL l:=by
 intro l
 induction l with
 | nil=>rfl
 | cons w l ih=>
   cases l with
   | nil=>simp [Lib.join,joinL,List.intercalate]
   | cons v l=>
     rw [joinL,← ih]
     simp [Lib.join,List.intercalate]
def nameK (k:Int):List UInt8:=
 if k = 1 then [104,101,108,108,111] else if k = 2 then [97,110,115,119,101,114] else if k = 3 then [112,117,108,108]
 else if k = 4 then [113,117,101,115,116,105,111,110] else if k = 5 then [98,97,116,99,104] else [114,101,102,117,115,101]
/-- a number's digits, as a word of 64 bits -/
def numW (n:Int):List UInt8:=digL (IntKind.u64.wrap n).toNat
def moreW (m:Msg):List (List UInt8):=
 if m.kind = 1 then [numW m.lim,numW m.seed,numW m.bits,numW (if m.wants then 1 else 0),numW (m.flt.length:Nat),numW (m.know.length:Nat),numW (m.there.length:Nat)]
 else if m.kind = 2 then [if m.same then [115,97,109,101] else [111,116,104,101,114]]
 else if m.kind = 3 then [numW m.nxt]
 else if m.kind = 4 then [wofL m.rg.lo.data.toList,if m.rg.op then [43] else wofL m.rg.hi.data.toList,digL m.sum]
 else if m.kind = 5 then [numW m.nxt,if m.last then [108,97,115,116] else [109,111,114,101],numW (m.its.length:Nat),numW (sizes m.its:Nat)]
 else [numW m.err]
def lineW (m:Msg):List (List UInt8):=nameK m.kind :: numW m.ses :: numW m.num :: moreW m
/-- the line of bytes -/
def lineB (b:List UInt8):List UInt8:=if (rdM b).2 ≠ 0 then [106,117,110,107] ++ 32 :: numW (rdM b).2 else joinL (lineW (rdM b).1)
theorem numW_word (n:Int):wordR (numW n) = true:=digL_word _
theorem lineW_word (m:Msg):∀ w ∈ lineW m,wordR w = true:=by
 intro w hw
 unfold lineW at hw
 rcases List.mem_cons.1 hw with rfl|hw
 · unfold nameK
   split
   · decide
   split
   · decide
   split
   · decide
   split
   · decide
   split
   · decide
   · decide
 rcases List.mem_cons.1 hw with rfl|hw
 · exact numW_word _
 rcases List.mem_cons.1 hw with rfl|hw
 · exact numW_word _
 unfold moreW at hw
 split at hw
 · simp only [List.mem_cons,List.not_mem_nil,or_false] at hw
   rcases hw with rfl|rfl|rfl|rfl|rfl|rfl|rfl <;> exact numW_word _
 split at hw
 · simp only [List.mem_cons,List.not_mem_nil,or_false] at hw
   subst hw
   split <;> decide
 split at hw
 · simp only [List.mem_cons,List.not_mem_nil,or_false] at hw
   subst hw
   exact numW_word _
 split at hw
 · simp only [List.mem_cons,List.not_mem_nil,or_false] at hw
   rcases hw with rfl|rfl|rfl
   · exact wofL_word _
   · split
     · decide
     · exact wofL_word _
   · exact digL_word _
 split at hw
 · simp only [List.mem_cons,List.not_mem_nil,or_false] at hw
   rcases hw with rfl|rfl|rfl|rfl
   · exact numW_word _
   · split <;> decide
   · exact numW_word _
   · exact numW_word _
 · simp only [List.mem_cons,List.not_mem_nil,or_false] at hw
   subst hw
   exact numW_word _
theorem wrapU_lt (n:Int):(IntKind.u64.wrap n).toNat < 18446744073709551616:=by rw [IntKind.wrap_u64];omega
theorem numW_len (n:Int):(numW n).length ≤ 20:=digL_len64 (wrapU_lt n)
theorem joinL_len:∀ l:List (List UInt8),(∀ w ∈ l,w.length ≤ 80) → (joinL l).length ≤ 81 * l.length:=by
 intro l
 induction l with
 | nil=>intro _;simp [joinL]
 | cons w l ih=>
   intro h
   have h1:=h w List.mem_cons_self
   cases l with
   | nil=>simp only [joinL,List.length_cons,List.length_nil];omega
   | cons v l=>
     have h2:=ih (fun x hx=>h x (List.mem_cons_of_mem _ hx))
     rw [joinL,List.length_append]
     simp only [List.length_cons] at h2 ⊢
     omega
theorem lineW_len {m:Msg} (h:m.kind = 4 → m.rg.lo.size ≤ 20 ∧ m.rg.hi.size ≤ 20) (hs:m.sum < 18446744073709551616):(lineW m).length ≤ 10 ∧ ∀ w ∈ lineW m,w.length ≤ 80:=by
 have hn:=numW_len
 have hz:∀ s:ByteArray,s.data.toList.length = s.size:=fun s=>by rw [Array.length_toList];rfl
 unfold lineW
 refine ⟨?_,fun w hw=>?_⟩
 · unfold moreW
   split
   · simp
   split
   · simp
   split
   · simp
   split
   · simp
   split
   · simp
   · simp
 rcases List.mem_cons.1 hw with rfl|hw
 · unfold nameK
   split
   · decide
   split
   · decide
   split
   · decide
   split
   · decide
   split
   · decide
   · decide
 rcases List.mem_cons.1 hw with rfl|hw
 · have:=hn m.ses;omega
 rcases List.mem_cons.1 hw with rfl|hw
 · have:=hn m.num;omega
 unfold moreW at hw
 split at hw
 · simp only [List.mem_cons,List.not_mem_nil,or_false] at hw
   rcases hw with rfl|rfl|rfl|rfl|rfl|rfl|rfl
   · have:=hn m.lim;omega
   · have:=hn m.seed;omega
   · have:=hn m.bits;omega
   · have:=hn (if m.wants = true then 1 else 0);omega
   · have:=hn (m.flt.length:Nat);omega
   · have:=hn (m.know.length:Nat);omega
   · have:=hn (m.there.length:Nat);omega
 split at hw
 · simp only [List.mem_cons,List.not_mem_nil,or_false] at hw
   subst hw
   split <;> decide
 split at hw
 · simp only [List.mem_cons,List.not_mem_nil,or_false] at hw
   subst hw
   have:=hn m.nxt;omega
 split at hw
 · rename_i h4
   obtain ⟨h5,h6⟩:=h h4
   simp only [List.mem_cons,List.not_mem_nil,or_false] at hw
   rcases hw with rfl|rfl|rfl
   · have:=wofL_len m.rg.lo.data.toList
     rw [hz] at this;omega
   · split
     · decide
     · have:=wofL_len m.rg.hi.data.toList
       rw [hz] at this;omega
   · have:=digL_len64 hs;omega
 split at hw
 · simp only [List.mem_cons,List.not_mem_nil,or_false] at hw
   rcases hw with rfl|rfl|rfl|rfl
   · have:=hn m.nxt;omega
   · split <;> decide
   · have:=hn (m.its.length:Nat);omega
   · have:=hn (sizes m.its:Nat);omega
 · simp only [List.mem_cons,List.not_mem_nil,or_false] at hw
   subst hw
   have:=hn m.err;omega
/-! ### tallies -/
/-- which kind the bytes are; 0: none -/
def kndB (b:List UInt8):Int:=if (rdM b).2 ≠ 0 then 0 else (rdM b).1.kind
def cntK (k:Int) (l:List (List UInt8)):Nat:=(l.filter fun b=>decide (kndB b = k)).length
def itsN (l:List (List UInt8)):Nat:=(l.map fun b=>(rdM b).1.its.length).sum
theorem cntK_snoc (k:Int) (l:List (List UInt8)) (b:List UInt8):cntK k (l ++ [b]) = cntK k l + if kndB b = k then 1 else 0:=by
 unfold cntK
 rw [List.filter_append,List.length_append]
 by_cases c:kndB b = k
 · simp [c]
 · simp [c]
theorem itsN_snoc (l:List (List UInt8)) (b:List UInt8):itsN (l ++ [b]) = itsN l + (rdM b).1.its.length:=by unfold itsN;simp
theorem cntK_le (k:Int) (l:List (List UInt8)):cntK k l ≤ l.length:=List.length_filter_le _ _
theorem rdPs_its {m:Msg} {p:List (List UInt8)} (h0:m.its = []):(rdPs m p).1.kind = m.kind ∧ ((rdPs m p).1.its ≠ [] → m.kind = 5) ∧ (rdPs m p).1.its.length ≤ 4096:=by
 unfold rdPs
 dsimp only
 split
 · split
   · exact ⟨rfl,fun q=>absurd h0 q,by rw [h0];simp⟩
   · split
     · exact ⟨rfl,fun q=>absurd h0 q,by rw [h0];simp⟩
     · exact ⟨rfl,fun q=>absurd h0 q,by simp only;rw [h0];simp⟩
 · split
   · split
     · exact ⟨rfl,fun q=>absurd h0 q,by rw [h0];simp⟩
     · split
       · exact ⟨rfl,fun q=>absurd h0 q,by simp only;rw [h0];simp⟩
       · exact ⟨rfl,fun q=>absurd h0 q,by rw [h0];simp⟩
   · split
     · rename_i h5
       split
       · exact ⟨rfl,fun _=>h5,by rw [h0];simp⟩
       · split
         · exact ⟨rfl,fun _=>h5,by rw [h0];simp⟩
         · rename_i a _
           exact ⟨rfl,fun _=>h5,(rdItems_back (Decidable.not_not.1 a)).2.1⟩
     · exact ⟨rfl,fun q=>absurd h0 q,by rw [h0];simp⟩
theorem rdM_its (b:List UInt8):((rdM b).1.its ≠ [] → kndB b = 5) ∧ (rdM b).1.its.length ≤ 4096 ∧ 0 ≤ kndB b ∧ kndB b ≤ 6 ∧ ((rdM b).2 = 0 → msR (rdM b).1 = true):=by
 unfold kndB rdM
 by_cases c:(openF b).2 ≠ 0
 · rw [if_pos c,if_pos c];exact ⟨fun q=>absurd rfl q,by simp,by decide,by decide,fun q=>absurd q c⟩
 rw [if_neg c]
 rw [rdL_eq]
 have hn:=ns_same (rdHd (openF b).1).1 (rdHd (openF b).1).2.1 (rdHd (openF b).1).2.2
 have h0:(rdHL (openF b).1).1.its = []:=hn.2.2.1
 by_cases c1:endSt (rdHL (openF b).1).2.2.1 (rdHL (openF b).1).2.2.2 ≠ 0
 · rw [if_pos c1,if_pos c1];exact ⟨fun q=>absurd rfl q,by simp,by decide,by decide,fun q=>absurd q c1⟩
 rw [if_neg c1]
 by_cases c2:(rdPs (rdHL (openF b).1).1 (rdHL (openF b).1).2.1).2 ≠ 0
 · rw [if_pos c2,if_pos c2];exact ⟨fun q=>absurd rfl q,by simp,by decide,by decide,fun q=>absurd q c2⟩
 rw [if_neg c2]
 obtain ⟨p1,p2,p3⟩:=rdPs_its (m:=(rdHL (openF b).1).1) (p:=(rdHL (openF b).1).2.1) h0
 by_cases c3:msR (rdPs (rdHL (openF b).1).1 (rdHL (openF b).1).2.1).1 = true
 · rw [if_pos c3,if_neg (by simp)]
   have hk:=msR_parts c3
   exact ⟨fun q=>p1.trans (p2 q),p3,by simp only;omega,by simp only;omega,fun _=>c3⟩
 · rw [if_neg c3,if_pos (by simp)]
   exact ⟨fun q=>absurd rfl q,by simp,by decide,by decide,fun q=>absurd q (by decide)⟩
theorem kndB_err {b:List UInt8}:kndB b = 0 ↔ (rdM b).2 ≠ 0:=by
 unfold kndB
 constructor
 · intro h
   by_cases c:(rdM b).2 ≠ 0
   · exact c
   · rw [if_neg c] at h
     have:=(msR_parts ((rdM_its b).2.2.2.2 (Decidable.not_not.1 c))).2.2.2.1
     omega
 · intro h;rw [if_pos h]
theorem lineB_len {b:List UInt8} (hb:b.length ≤ 1000000):(lineB b).length ≤ 1000:=by
 unfold lineB
 by_cases c:(rdM b).2 ≠ 0
 · rw [if_pos c]
   have:=numW_len (rdM b).2
   simp;omega
 · rw [if_neg c]
   have hR:=(rdM_its b).2.2.2.2 (Decidable.not_not.1 c)
   have hs:=(rdM_B hb (Decidable.not_not.1 c)).2
   obtain ⟨h1,h2⟩:=lineW_len (m:=(rdM b).1) (fun h4=>by
     have:=(rgR_iff _).1 ((msR_parts hR).2.2.2.2.2.2.2.1 h4)
     omega) hs
   have:=joinL_len _ h2
   omega
theorem kndB_ok {b:List UInt8} (h:(rdM b).2 = 0):kndB b = (rdM b).1.kind:=by unfold kndB;rw [if_neg (by simp [h])]
theorem itsN_le (l:List (List UInt8)):itsN l ≤ 4096 * l.length:=by
 unfold itsN
 induction l with
 | nil=>simp
 | cons b l ih=>
   have:=(rdM_its b).2.1
   simp only [List.map_cons,List.sum_cons,List.length_cons]
   omega
end Go.Proofs.YthlffkjpklpkfaaGreat
namespace Go.Proofs.YthlffkjpklpkfaaGreat
open Go.RowKit Go.Shelf
noncomputable def sco_ren : Go.Shelf.Ren := ⟨fun | 143 => 113 | 144 => 70 | 217 => 165 | 219 => 151 | 224 => 167 | 225 => 166 | 266 => 180 | 267 => 168 | 314 => 181 | n => n, fun | 3 => 3 | 4 => 4 | 5 => 5 | 9 => 9 | 46 => 220 | 51 => 105 | 146 => 233 | n => n, fun | 1 => (Tryz.prog.globals.findIdx? (·.name == "internal/bytealg.MaxLen")).getD 0 | n => n⟩
theorem sco_lay:Lays.n144 Tryz.prog sco_ren:={ mixed:=by kernel_rfl,f143:=Tryz.func113.trans (congrArg some (by kernel_rfl)),f144:=Tryz.func70.trans (congrArg some (by kernel_rfl)),f217:=Tryz.func165.trans (congrArg some (by kernel_rfl)),f219:=Tryz.func151.trans (congrArg some (by kernel_rfl)),f224:=Tryz.func167.trans (congrArg some (by kernel_rfl)),f225:=Tryz.func166.trans (congrArg some (by kernel_rfl)),f266:=Tryz.func180.trans (congrArg some (by kernel_rfl)),f267:=Tryz.func168.trans (congrArg some (by kernel_rfl)),f314:=Tryz.func181.trans (congrArg some (by kernel_rfl)),t3:=Tryz.underlying3,a3:=Tryz.isAgg3,z3:=Tryz.sizeOf3,v3:=Tryz.zeroValue3,t4:=Tryz.underlying4,a4:=Tryz.isAgg4,z4:=Tryz.sizeOf4,v4:=Tryz.zeroValue4,t5:=Tryz.underlying5,a5:=Tryz.isAgg5,z5:=Tryz.sizeOf5,v5:=Tryz.zeroValue5,t9:=Tryz.underlying9,a9:=Tryz.isAgg9,z9:=Tryz.sizeOf9,v9:=Tryz.zeroValue9,t46:=Tryz.underlying220,a46:=Tryz.isAgg220,z46:=Tryz.sizeOf220,v46:=Tryz.zeroValue220,t51:=Tryz.underlying105,a51:=Tryz.isAgg105,z51:=Tryz.sizeOf105,v51:=Tryz.zeroValue105,t146:=Tryz.underlying233,a146:=Tryz.isAgg233,z146:=Tryz.sizeOf233,v146:=Tryz.zeroValue233,g1:=by kernel_rfl }
noncomputable def sjo_ren:Go.Shelf.Ren:=⟨fun|156=>71|165=>114|166=>115|169=>116|240=>152|241=>153|276=>169|277=>170|n=>n,fun|0=>0|3=>3|4=>4|5=>5|9=>9|20=>20|31=>63|37=>27|70=>176|72=>178|75=>181|76=>182|80=>184|127=>217|164=>227|n=>n,fun n=>n⟩
theorem sjo_lay:Lays.n156 Tryz.prog sjo_ren:={ mixed:=by kernel_rfl,f156:=Tryz.func71.trans (congrArg some (by kernel_rfl)),f165:=Tryz.func114.trans (congrArg some (by kernel_rfl)),f166:=Tryz.func115.trans (congrArg some (by kernel_rfl)),f169:=Tryz.func116.trans (congrArg some (by kernel_rfl)),f240:=Tryz.func152.trans (congrArg some (by kernel_rfl)),f241:=Tryz.func153.trans (congrArg some (by kernel_rfl)),f276:=Tryz.func169.trans (congrArg some (by kernel_rfl)),f277:=Tryz.func170.trans (congrArg some (by kernel_rfl)),t0:=Tryz.underlying0,a0:=Tryz.isAgg0,z0:=Tryz.sizeOf0,v0:=Tryz.zeroValue0,t3:=Tryz.underlying3,a3:=Tryz.isAgg3,z3:=Tryz.sizeOf3,v3:=Tryz.zeroValue3,t4:=Tryz.underlying4,a4:=Tryz.isAgg4,z4:=Tryz.sizeOf4,v4:=Tryz.zeroValue4,t9:=Tryz.underlying9,a9:=Tryz.isAgg9,z9:=Tryz.sizeOf9,v9:=Tryz.zeroValue9,t20:=Tryz.underlying20,a20:=Tryz.isAgg20,z20:=Tryz.sizeOf20,v20:=Tryz.zeroValue20,t31:=Tryz.underlying63,a31:=Tryz.isAgg63,z31:=Tryz.sizeOf63,v31:=Tryz.zeroValue63,t37:=Tryz.underlying27,a37:=Tryz.isAgg27,z37:=Tryz.sizeOf27,v37:=Tryz.zeroValue27,t70:=Tryz.underlying176,a70:=Tryz.isAgg176,z70:=Tryz.sizeOf176,v70:=Tryz.zeroValue176,t72:=Tryz.underlying178,a72:=Tryz.isAgg178,z72:=Tryz.sizeOf178,v72:=Tryz.zeroValue178,t75:=Tryz.underlying181,a75:=Tryz.isAgg181,z75:=Tryz.sizeOf181,v75:=Tryz.zeroValue181,t76:=Tryz.underlying182,a76:=Tryz.isAgg182,z76:=Tryz.sizeOf182,v76:=Tryz.zeroValue182,t127:=Tryz.underlying217,a127:=Tryz.isAgg217,z127:=Tryz.sizeOf217,v127:=Tryz.zeroValue217,t164:=Tryz.underlying227,a164:=Tryz.isAgg227,z164:=Tryz.sizeOf227,v164:=Tryz.zeroValue227 }
theorem sjo_ext:Builder.Extra Tryz.prog sjo_ren where
 sizeBuilder:=by kernel_rfl
 liesBuilder:=by kernel_rfl
 t5:=Tryz.underlying5
 a5:=Tryz.isAgg5
 z5:=Tryz.sizeOf5
 v5:=Tryz.zeroValue5
 infoByte:=by kernel_rfl
 cellsByte:=by kernel_rfl
 sizeByte:=by kernel_rfl
 neB5:=by decide
theorem str_Contains (s:ByteArray) (c:UInt8):Fn Tryz.prog 70 [sC s,sC ⟨#[c]⟩] (boR (s.data.toList.contains c)):=by
 refine ⟨⟨_,Tryz.func70,by kernel_rfl,by kernel_rfl⟩,fun N0 w vs _ ha=>?_⟩
 obtain ⟨v,u,rfl,h1,h2⟩:=args2 ha
 obtain rfl:v = .string s:=h1
 obtain rfl:u = .string ⟨#[c]⟩:=h2
 refine Calls.mono (Any.strings_Contains_one sco_lay s c w) ?_
 rintro e w' ⟨rfl,rfl⟩
 exact ⟨_,rfl,Ext.refl _,by rw [Lib.contains_iff_indexByte];rfl⟩
theorem str_Join (xs:List ByteArray) (sep:ByteArray) (hl:xs.length ≤ 1000000) (hj:(Lib.join (xs.map (·.data.toList)) sep.data.toList).length ≤ 1000000000) :
   Fn Tryz.prog 71 [strsB xs,sC sep] (.per (rawP (.string ⟨(Lib.join (xs.map (·.data.toList)) sep.data.toList).toArray⟩))):=by
 refine ⟨⟨_,Tryz.func71,by kernel_rfl,by kernel_rfl⟩,fun N0 w vs _ ha=>?_⟩
 obtain ⟨v,u,rfl,h1,h2⟩:=args2 ha
 obtain rfl:u = .string sep:=h2
 obtain ⟨a,c,b,o,rfl,g1,g2,g3,g4,g5⟩:=(lst_sl h1:Sl 1 encS w v xs)
 by_cases h0:xs = []
 · subst h0
   refine Calls.mono (Any.strings_Join_none sjo_lay sjo_ext a c sep w) ?_
   rintro e w' ⟨rfl,rfl⟩
   exact ⟨_,rfl,Ext.refl _,rfl⟩
 · have hp:0 < xs.length:=List.length_pos_iff.2 h0
   have ha':=g3 hp
   subst ha'
   have hc:∀ (j:Nat) x,xs[j]? = some x → w.cell? ⟨b,o + j,none⟩ = some (.string x):=fun j x hx=>by
     have:=g5 j x hx 0 (.string x) rfl
     simpa using this
   have hb:b < w.heap.size:=by
     have:=hc 0 _ (List.getElem?_eq_getElem hp)
     exact World.block_lt_of_cell? w _ this
   refine Calls.mono (Any.strings_Join sjo_lay sjo_ext b o c xs sep w hc hb (by omega) g1 (by omega)) ?_
   rintro e w' ⟨rfl,hw⟩
   exact ⟨_,rfl,hw,rfl⟩
theorem u8_of {c:UInt8} {z:Int} (h:z = (c.toNat:Int)):IntKind.u8.wrap z = (c.toNat:Int):=by
 have:=c.toNat_lt
 rw [h,IntKind.wrap_u8];omega
theorem u64_of {z:Int} {n:Nat} (h:z = (n:Int)) (hn:n < 18446744073709551616):IntKind.u64.wrap z = (n:Int):=by
 rw [h,IntKind.wrap_u64];omega
theorem ofNat_lt {n:Nat} (h:n < 256):(UInt8.ofNat n).toNat = n:=by simp;omega
section
theorem tr_digits:∀ n:Nat,n < 18446744073709551616 → Fn Tryz.prog 25 [iC .u64 (n:Int)] (.per (rawP (.string (ba (digL n))))):=by
 intro n
 induction n using Nat.strongRecOn with
 | ind n ih=>
   intro hn
   have hten:((10:Nat):Int) = 10:=rfl
   by_cases c:n < 10
   · have w1:IntKind.u64.wrap (48 + (n:Int)) = ((48 + n:Nat):Int):=u64_of (by omega) (by omega)
     have w2:IntKind.u8.wrap ((48 + n:Nat):Int) = ((UInt8.ofNat (48 + n)).toNat:Int):=u8_of (by rw [ofNat_lt (by omega)])
     rw [digL_lt c]
     clear ih
     refine fi Tryz.func25 Tryz.ntmps25 ?_
     (repeat' (first|refine AW_seq ?_|refine AW_block ?_|refine AW_skip ?_|refine AW_exit ?_|refine AW_ret ?_|refine AW_region ?_|refine AW_draw mixed0 ?_|refine AL_nil ?_|refine AD_nil (by kernel_rfl) ?_|(refine AW_cl rfl rfl ⟨fun hc=>?_,fun hc=>?_⟩ <;> (repeat rw [List.length_map] at hc) <;> (try exact absd hc))|((first|apply AL_t rfl|apply AL_0 rfl|apply AD_t rfl|apply AD_0 rfl);focus (first|((apply u_k 8;(focus rfl);exact op_num ⟨rfl,rfl,rfl⟩ rfl rfl rfl rfl w1))|(apply u_g;(focus rfl);apply op_gyes rfl rfl rfl rfl rfl;((apply u_k 8;(focus rfl);exact op_num ⟨rfl,rfl,rfl⟩ rfl rfl rfl rfl w1)))|((apply u_k 10;(focus rfl);exact u_conv ⟨rfl,rfl,rfl⟩ rfl inferInstance inferInstance rfl w2))|(apply u_g;(focus rfl);apply op_gyes rfl rfl rfl rfl rfl;((apply u_k 10;(focus rfl);exact u_conv ⟨rfl,rfl,rfl⟩ rfl inferInstance inferInstance rfl w2)))|((apply u_k 10;(focus rfl);exact u_sb (l:=[UInt8.ofNat (48 + n)]) ⟨rfl,rfl,rfl⟩ rfl inferInstance inferInstance inferInstance (by first|exact sr_lst rfl|exact sr_row rfl rfl rfl|exact sr_bor rfl|exact sr_nil rfl)))|(apply u_g;(focus rfl);apply op_gyes rfl rfl rfl rfl rfl;((apply u_k 10;(focus rfl);exact u_sb (l:=[UInt8.ofNat (48 + n)]) ⟨rfl,rfl,rfl⟩ rfl inferInstance inferInstance inferInstance (by first|exact sr_lst rfl|exact sr_row rfl rfl rfl|exact sr_bor rfl|exact sr_nil rfl))))|exact z_auto|fail))|refine thenA_n ?_|refine thenA_r ?_|refine thenA_e ?_|refine inB_n ?_|refine inB_r ?_|refine inB_hit ?_|refine inB_miss rfl ?_|((first|refine AL_cl rfl rfl rfl ⟨fun hc=>?_,fun hc=>?_⟩|refine AD_cl rfl rfl rfl ⟨fun hc=>?_,fun hc=>?_⟩) <;> (fail_if_success (have q:(true = true):=hc)) <;> (fail_if_success (have q:(false = false):=hc)) <;> (repeat rw [List.length_map] at hc) <;> (try exact absd hc))|refine AW_cond_nil rfl rfl (fun hc=>?_) ?_))
     refine rt1 ?_
     exact rv_per rfl
   · have a1:=ih (n / 10) (by omega) (by omega)
     have a2:=ih (n % 10) (by omega) (by omega)
     have l1:=digL_len64 (n:=n / 10) (by omega)
     have l2:=digL_len64 (n:=n % 10) (by omega)
     rw [← ba_sz] at l1 l2
     have w1:IntKind.u64.wrap ((n:Int).tdiv 10) = ((n / 10:Nat):Int):=u64_of (by rw [Int.tdiv_eq_ediv_of_nonneg (by omega)];omega) (by omega)
     have w2:(n:Int).tmod 10 = ((n % 10:Nat):Int):=by rw [Int.tmod_eq_emod_of_nonneg (by omega)];omega
     rw [digL_ge c,← ba_app]
     clear ih
     generalize n / 10 = p at *
     generalize n % 10 = q at *
     generalize ba (digL p) = dp at *
     generalize ba (digL q) = dq at *
     refine fi Tryz.func25 Tryz.ntmps25 ?_
     (repeat' (first|refine AW_seq ?_|refine AW_block ?_|refine AW_skip ?_|refine AW_exit ?_|refine AW_ret ?_|refine AW_region ?_|refine AW_draw mixed0 ?_|refine AL_nil ?_|refine AD_nil (by kernel_rfl) ?_|(refine AW_cl rfl rfl ⟨fun hc=>?_,fun hc=>?_⟩ <;> (repeat rw [List.length_map] at hc) <;> (try exact absd hc))|((first|apply AL_t rfl|apply AL_0 rfl|apply AD_t rfl|apply AD_0 rfl);focus (first|((apply u_k 8;(focus rfl);exact op_quo ⟨rfl,rfl,rfl⟩ rfl rfl rfl (by decide) w1))|(apply u_g;(focus rfl);apply op_gyes rfl rfl rfl rfl rfl;((apply u_k 8;(focus rfl);exact op_quo ⟨rfl,rfl,rfl⟩ rfl rfl rfl (by decide) w1)))|((apply u_k 8;(focus rfl);exact op_rem ⟨rfl,rfl,rfl⟩ rfl rfl rfl (by decide) w2))|(apply u_g;(focus rfl);apply op_gyes rfl rfl rfl rfl rfl;((apply u_k 8;(focus rfl);exact op_rem ⟨rfl,rfl,rfl⟩ rfl rfl rfl (by decide) w2)))|exact z_auto|((refine c_F (a1) (hg:=?_);((repeat (first|exact GL.nil|(refine GL.cons ?_ ?_;focus (first|exact gl_per rfl|exact gl_lst rfl|exact gl_row rfl rfl rfl|exact gl_bor rfl|exact gl_nil rfl|exact gl_nil' rfl))));done)))|(apply u_g;(focus rfl);apply op_gyes rfl rfl rfl rfl rfl;((refine c_F (a1) (hg:=?_);((repeat (first|exact GL.nil|(refine GL.cons ?_ ?_;focus (first|exact gl_per rfl|exact gl_lst rfl|exact gl_row rfl rfl rfl|exact gl_bor rfl|exact gl_nil rfl|exact gl_nil' rfl))));done))))|((refine c_F (a2) (hg:=?_);((repeat (first|exact GL.nil|(refine GL.cons ?_ ?_;focus (first|exact gl_per rfl|exact gl_lst rfl|exact gl_row rfl rfl rfl|exact gl_bor rfl|exact gl_nil rfl|exact gl_nil' rfl))));done)))|(apply u_g;(focus rfl);apply op_gyes rfl rfl rfl rfl rfl;((refine c_F (a2) (hg:=?_);((repeat (first|exact GL.nil|(refine GL.cons ?_ ?_;focus (first|exact gl_per rfl|exact gl_lst rfl|exact gl_row rfl rfl rfl|exact gl_bor rfl|exact gl_nil rfl|exact gl_nil' rfl))));done))))|fail))|refine thenA_n ?_|refine thenA_r ?_|refine thenA_e ?_|refine inB_n ?_|refine inB_r ?_|refine inB_hit ?_|refine inB_miss rfl ?_|((first|refine AL_cl rfl rfl rfl ⟨fun hc=>?_,fun hc=>?_⟩|refine AD_cl rfl rfl rfl ⟨fun hc=>?_,fun hc=>?_⟩) <;> (fail_if_success (have q:(true = true):=hc)) <;> (fail_if_success (have q:(false = false):=hc)) <;> (repeat rw [List.length_map] at hc) <;> (try exact absd hc))|refine AW_cond_nil rfl rfl (fun hc=>?_) ?_))
     refine rt1 ?_
     exact rv_per rfl
theorem tr_numbers (l:List Int) (hl:l.length ≤ 1000000):Fn Tryz.prog 27 [intsB l] (.own 9 1 ((l.map fun n=>ba (numW n)).map strP)):=by
 generalize hR:(l.map fun n=>ba (numW n)) = R
 refine fi Tryz.func27 Tryz.ntmps27 ?_
 (refine w0 ?_;(repeat' first|refine W2.mk ?_ ?_|refine W1.mk fun hc=>?_))
 refine AW_le (Le_nil 3 600 9 1 rfl rfl) ?_
 refine AW_loopP (X:=Nat) (fun i=>i ≤ l.length) (fun i=>mkSt [(3,.row 600 0),(6,intsB l),(7,iC .i64 (l.length:Nat)),(8,iC .i64 (i:Nat))] [(600,.row 9 1 ((R.take i).map strP))]) (fun i=>l.length - i) 0 (Nat.zero_le _) ?_ ?_
 · exact le_auto
 · intro i h1
   have hRl:R.length = l.length:=by rw [← hR];simp
   by_cases hi:i < l.length
   · obtain ⟨k,hk⟩:=Int.eq_ofNat_of_zero_le (wrapu_nn l[i])
     have a1:=tr_digits k (by have:=wrapU_lt l[i];omega)
     have e:R[i]'(by omega) = ba (digL k):=by simp only [← hR,List.getElem_map];unfold numW;rw [hk];rfl
     rw [← e] at a1
     have hT:R.take (i + 1) = R.take i ++ [R[i]'(by omega)]:=by rw [List.take_append_getElem]
     clear hR
     generalize R[i]'(by omega) = r at *
     (repeat' (first|refine AW_seq ?_|refine AW_block ?_|refine AW_skip ?_|refine AW_exit ?_|refine AW_ret ?_|refine AW_region ?_|refine AW_draw mixed0 ?_|refine AL_nil ?_|refine AD_nil (by kernel_rfl) ?_|(refine AW_cl rfl rfl ⟨fun hc=>?_,fun hc=>?_⟩ <;> (repeat rw [List.length_map] at hc) <;> (try exact absd hc))|((first|apply AL_t rfl|apply AL_0 rfl|apply AD_t rfl|apply AD_0 rfl);focus (first|((apply u_k 10;(focus rfl);exact u_conv ⟨rfl,rfl,rfl⟩ rfl inferInstance inferInstance rfl hk))|(apply u_g;(focus rfl);apply op_gyes rfl rfl rfl rfl rfl;((apply u_k 10;(focus rfl);exact u_conv ⟨rfl,rfl,rfl⟩ rfl inferInstance inferInstance rfl hk)))|exact z_auto|exact c_A (a1)|fail))|refine thenA_n ?_|refine thenA_r ?_|refine thenA_e ?_|refine inB_n ?_|refine inB_r ?_|refine inB_hit ?_|refine inB_miss rfl ?_|((first|refine AL_cl rfl rfl rfl ⟨fun hc=>?_,fun hc=>?_⟩|refine AD_cl rfl rfl rfl ⟨fun hc=>?_,fun hc=>?_⟩) <;> (fail_if_success (have q:(true = true):=hc)) <;> (fail_if_success (have q:(false = false):=hc)) <;> (repeat rw [List.length_map] at hc) <;> (try exact absd hc))|refine AW_cond_nil rfl rfl (fun hc=>?_) ?_))
     refine ⟨i + 1,by omega,by omega,?_⟩
     rw [hT]
     exact le_auto
   · rw [List.take_of_length_le (by omega)]
     clear hR
     (refine w0 ?_;(repeat' first|refine W2.mk ?_ ?_|refine W1.mk fun hc=>?_))
     refine rt1 ?_
     exact rv_own rfl rfl rfl
theorem tr_pick (b:Bool) (y n:ByteArray):Fn Tryz.prog 72 [bC b,sC y,sC n] (.per (rawP (.string (if b then y else n)))):=by
 cases b with
 | true=>
   refine fi Tryz.func72 Tryz.ntmps72 ?_
   (refine w0 ?_;(repeat' first|refine W2.mk ?_ ?_|refine W1.mk fun hc=>?_))
   refine rt1 ?_
   exact rv_per rfl
 | false=>
   refine fi Tryz.func72 Tryz.ntmps72 ?_
   (refine w0 ?_;(repeat' first|refine W2.mk ?_ ?_|refine W1.mk fun hc=>?_))
   refine rt1 ?_
   exact rv_per rfl
theorem rtr_pick (b:Bool) (y n:ByteArray):Fn Tryz.prog 31 [bC b,sC y,sC n] (.per (rawP (.string (if b then y else n)))):=by
 cases b with
 | true=>
   refine fi Tryz.func31 Tryz.ntmps31 ?_
   (refine w0 ?_;(repeat' first|refine W2.mk ?_ ?_|refine W1.mk fun hc=>?_))
   refine rt1 ?_
   exact rv_per rfl
 | false=>
   refine fi Tryz.func31 Tryz.ntmps31 ?_
   (refine w0 ?_;(repeat' first|refine W2.mk ?_ ?_|refine W1.mk fun hc=>?_))
   refine rt1 ?_
   exact rv_per rfl
theorem wd_plain (c:UInt8):Fn Tryz.prog 117 [iC .u8 (c.toNat:Int)] (boR (plainC c)):=by
 unfold plainC
 refine fi Tryz.func117 Tryz.ntmps117 ?_
 (refine w0 ?_;(repeat' first|refine W2.mk ?_ ?_|refine W1.mk fun hc=>?_))
 all_goals
   refine rt1 ?_
   refine rv_bool rfl ?_
   first|(simp [*];done)|(rw [Bool.eq_iff_iff];simp [*];done)|(rw [Bool.eq_iff_iff];simp [*];omega)
theorem rwd_plain (c:UInt8):Fn Tryz.prog 75 [iC .u8 (c.toNat:Int)] (boR (plainC c)):=by
 unfold plainC
 refine fi Tryz.func75 Tryz.ntmps75 ?_
 (refine w0 ?_;(repeat' first|refine W2.mk ?_ ?_|refine W1.mk fun hc=>?_))
 all_goals
   refine rt1 ?_
   refine rv_bool rfl ?_
   first|(simp [*];done)|(rw [Bool.eq_iff_iff];simp [*];done)|(rw [Bool.eq_iff_iff];simp [*];omega)
theorem rwd_hex (n:Nat) (h:n < 16):Fn Tryz.prog 76 [iC .i64 (n:Int)] (.per (rawP (.int .u8 ((UInt8.ofNat (hexN n)).toNat:Int)))):=by
 by_cases c:n < 10
 · have w:IntKind.u8.wrap (48 + (n:Int)) = ((UInt8.ofNat (hexN n)).toNat:Int):=u8_of (by unfold hexN;rw [if_pos c,ofNat_lt (by omega)];omega)
   refine fi Tryz.func76 Tryz.ntmps76 ?_
   (repeat' (first|refine AW_seq ?_|refine AW_block ?_|refine AW_skip ?_|refine AW_exit ?_|refine AW_ret ?_|refine AW_region ?_|refine AW_draw mixed0 ?_|refine AL_nil ?_|refine AD_nil (by kernel_rfl) ?_|(refine AW_cl rfl rfl ⟨fun hc=>?_,fun hc=>?_⟩ <;> (repeat rw [List.length_map] at hc) <;> (try exact absd hc))|((first|apply AL_t rfl|apply AL_0 rfl|apply AD_t rfl|apply AD_0 rfl);focus (first|((apply u_k 10;(focus rfl);exact u_conv ⟨rfl,rfl,rfl⟩ rfl inferInstance inferInstance rfl w))|(apply u_g;(focus rfl);apply op_gyes rfl rfl rfl rfl rfl;((apply u_k 10;(focus rfl);exact u_conv ⟨rfl,rfl,rfl⟩ rfl inferInstance inferInstance rfl w)))|exact z_auto|fail))|refine thenA_n ?_|refine thenA_r ?_|refine thenA_e ?_|refine inB_n ?_|refine inB_r ?_|refine inB_hit ?_|refine inB_miss rfl ?_|((first|refine AL_cl rfl rfl rfl ⟨fun hc=>?_,fun hc=>?_⟩|refine AD_cl rfl rfl rfl ⟨fun hc=>?_,fun hc=>?_⟩) <;> (fail_if_success (have q:(true = true):=hc)) <;> (fail_if_success (have q:(false = false):=hc)) <;> (repeat rw [List.length_map] at hc) <;> (try exact absd hc))|refine AW_cond_nil rfl rfl (fun hc=>?_) ?_))
   refine rt1 ?_
   exact rv_per rfl
 · have w:IntKind.u8.wrap (87 + (n:Int)) = ((UInt8.ofNat (hexN n)).toNat:Int):=u8_of (by unfold hexN;rw [if_neg c,ofNat_lt (by omega)];omega)
   refine fi Tryz.func76 Tryz.ntmps76 ?_
   (repeat' (first|refine AW_seq ?_|refine AW_block ?_|refine AW_skip ?_|refine AW_exit ?_|refine AW_ret ?_|refine AW_region ?_|refine AW_draw mixed0 ?_|refine AL_nil ?_|refine AD_nil (by kernel_rfl) ?_|(refine AW_cl rfl rfl ⟨fun hc=>?_,fun hc=>?_⟩ <;> (repeat rw [List.length_map] at hc) <;> (try exact absd hc))|((first|apply AL_t rfl|apply AL_0 rfl|apply AD_t rfl|apply AD_0 rfl);focus (first|((apply u_k 10;(focus rfl);exact u_conv ⟨rfl,rfl,rfl⟩ rfl inferInstance inferInstance rfl w))|(apply u_g;(focus rfl);apply op_gyes rfl rfl rfl rfl rfl;((apply u_k 10;(focus rfl);exact u_conv ⟨rfl,rfl,rfl⟩ rfl inferInstance inferInstance rfl w)))|exact z_auto|fail))|refine thenA_n ?_|refine thenA_r ?_|refine thenA_e ?_|refine inB_n ?_|refine inB_r ?_|refine inB_hit ?_|refine inB_miss rfl ?_|((first|refine AL_cl rfl rfl rfl ⟨fun hc=>?_,fun hc=>?_⟩|refine AD_cl rfl rfl rfl ⟨fun hc=>?_,fun hc=>?_⟩) <;> (fail_if_success (have q:(true = true):=hc)) <;> (fail_if_success (have q:(false = false):=hc)) <;> (repeat rw [List.length_map] at hc) <;> (try exact absd hc))|refine AW_cond_nil rfl rfl (fun hc=>?_) ?_))
   refine rt1 ?_
   exact rv_per rfl
theorem hex_at:∀ n:Fin 16,([48,49,50,51,52,53,54,55,56,57,97,98,99,100,101,102]:List UInt8)[n.val]? = some (UInt8.ofNat (hexN n.val)):=by decide
theorem wof_take {l:List UInt8} {i:Nat} (h:i < l.length):(l.take (i + 1)).flatMap wofC = (l.take i).flatMap wofC ++ wofC l[i]:=by
 rw [List.take_add_one,List.getElem?_eq_getElem h,Option.toList_some,List.flatMap_append];simp
theorem wof_len {l:List UInt8}:(l.flatMap wofC).length ≤ 3 * l.length:=by
 induction l with
 | nil=>simp
 | cons x l ih=>have:=(wofC_len x).2;rw [List.flatMap_cons,List.length_append,List.length_cons];omega
theorem wd_Of (s:ByteArray) (hs:s.size ≤ 1000000):Fn Tryz.prog 73 [sC s] (.per (rawP (.string (ba (wofL s.data.toList))))):=by
 by_cases h0:s = ⟨#[]⟩
 · subst h0
   refine fi Tryz.func73 Tryz.ntmps73 ?_
   (refine w0 ?_;(repeat' first|refine W2.mk ?_ ?_|refine W1.mk fun hc=>?_))
   refine rt1 ?_
   exact rv_per rfl
 · have h1:¬ s.data.toList = []:=fun q=>h0 (ba_ext q)
   have h1':=fun (q:s.toList = (⟨#[]⟩:ByteArray).toList)=>h0 ((toL_inj' _ _).1 q)
   have hlen:s.data.toList.length = s.size:=by rw [Array.length_toList];rfl
   have hW:wofL s.data.toList = s.data.toList.flatMap wofC:=by unfold wofL;rw [if_neg h1]
   rw [hW]
   clear hW
   refine fi Tryz.func73 Tryz.ntmps73 ?_
   (refine w0 ?_;(repeat' first|refine W2.mk ?_ ?_|refine W1.mk fun hc=>?_))
   refine AW_le (Le_nil 3 600 5 1 rfl rfl) ?_
   refine AW_loopP (X:=Nat) (fun i=>i ≤ s.size) (fun i=>mkSt [(0,sC s),(3,.row 600 0),(9,iC .i64 (s.size:Nat)),(10,iC .i64 (i:Nat))] [(600,.row 5 1 (((s.data.toList.take i).flatMap wofC).map byteP))]) (fun i=>s.size - i) 0 (Nat.zero_le _) ?_ ?_
   · exact le_auto
   · intro i hi
     by_cases hl:i < s.size
     · have hil:i < s.data.toList.length:=by omega
       have hT:=wof_take hil
       have a1:=wd_plain s.data.toList[i]
       have hc:=s.data.toList[i].toNat_lt
       have hwl:=wof_len (l:=s.data.toList.take i)
       rw [List.length_take] at hwl
       cases hp:plainC s.data.toList[i] with
       | true=>
         rw [hp] at a1
         have hwc:wofC s.data.toList[i] = [s.data.toList[i]]:=by unfold wofC;rw [if_pos hp]
         rw [hwc] at hT
         generalize (s.data.toList.take i).flatMap wofC = W at *
         (have kc1:=a1;refine w0 ?_;(repeat' first|refine W2.mk ?_ ?_|refine W1.mk fun hc=>?_);all_goals clear kc1)
         refine ⟨i + 1,by omega,by omega,?_⟩
         rw [hT]
         exact le_auto
       | false=>
         rw [hp] at a1
         have hwc:wofC s.data.toList[i] = [45,UInt8.ofNat (hexN (s.data.toList[i].toNat / 16)),UInt8.ofNat (hexN (s.data.toList[i].toNat % 16))]:=by unfold wofC;rw [if_neg (by rw [hp];decide)]
         rw [hwc] at hT
         have w1:IntKind.u8.wrap ((s.data.toList[i].toNat:Int).tdiv 16) = ((s.data.toList[i].toNat / 16:Nat):Int):=by
           rw [Int.tdiv_eq_ediv_of_nonneg (by omega),IntKind.wrap_u8];omega
         have w2:(s.data.toList[i].toNat:Int).tmod 16 = ((s.data.toList[i].toNat % 16:Nat):Int):=by rw [Int.tmod_eq_emod_of_nonneg (by omega)];omega
         have q1:=hex_at ⟨s.data.toList[i].toNat / 16,by omega⟩
         have q2:=hex_at ⟨s.data.toList[i].toNat % 16,by omega⟩
         simp only at q1 q2
         generalize UInt8.ofNat (hexN (s.data.toList[i].toNat / 16)) = d1 at *
         generalize UInt8.ofNat (hexN (s.data.toList[i].toNat % 16)) = d2 at *
         generalize s.data.toList[i].toNat / 16 = n1 at *
         generalize s.data.toList[i].toNat % 16 = n2 at *
         generalize (s.data.toList.take i).flatMap wofC = W at *
         (repeat' (first|refine AW_seq ?_|refine AW_block ?_|refine AW_skip ?_|refine AW_exit ?_|refine AW_ret ?_|refine AW_region ?_|refine AW_draw mixed0 ?_|refine AL_nil ?_|refine AD_nil (by kernel_rfl) ?_|(refine AW_cl rfl rfl ⟨fun hc=>?_,fun hc=>?_⟩ <;> (repeat rw [List.length_map] at hc) <;> (try exact absd hc))|((first|apply AL_t rfl|apply AL_0 rfl|apply AD_t rfl|apply AD_0 rfl);focus (first|((apply u_k 8;(focus rfl);exact op_quo ⟨rfl,rfl,rfl⟩ rfl rfl rfl (by decide) w1))|(apply u_g;(focus rfl);apply op_gyes rfl rfl rfl rfl rfl;((apply u_k 8;(focus rfl);exact op_quo ⟨rfl,rfl,rfl⟩ rfl rfl rfl (by decide) w1)))|((apply u_k 8;(focus rfl);exact op_rem ⟨rfl,rfl,rfl⟩ rfl rfl rfl (by decide) w2))|(apply u_g;(focus rfl);apply op_gyes rfl rfl rfl rfl rfl;((apply u_k 8;(focus rfl);exact op_rem ⟨rfl,rfl,rfl⟩ rfl rfl rfl (by decide) w2)))|((apply u_k 13;(focus rfl);first|exact u_sindex ⟨rfl,rfl,rfl⟩ rfl inferInstance rfl rfl rfl q1|exact u_sindex ⟨rfl,rfl,rfl⟩ rfl inferInstance rfl rfl rfl q2))|(apply u_g;(focus rfl);apply op_gyes rfl rfl rfl rfl rfl;((apply u_k 13;(focus rfl);first|exact u_sindex ⟨rfl,rfl,rfl⟩ rfl inferInstance rfl rfl rfl q1|exact u_sindex ⟨rfl,rfl,rfl⟩ rfl inferInstance rfl rfl rfl q2)))|exact z_auto|exact c_A (a1)|fail))|refine thenA_n ?_|refine thenA_r ?_|refine thenA_e ?_|refine inB_n ?_|refine inB_r ?_|refine inB_hit ?_|refine inB_miss rfl ?_|((first|refine AL_cl rfl rfl rfl ⟨fun hc=>?_,fun hc=>?_⟩|refine AD_cl rfl rfl rfl ⟨fun hc=>?_,fun hc=>?_⟩) <;> (fail_if_success (have q:(true = true):=hc)) <;> (fail_if_success (have q:(false = false):=hc)) <;> (repeat rw [List.length_map] at hc) <;> (try exact absd hc))|refine AW_cond_nil rfl rfl (fun hc=>?_) ?_))
         refine ⟨i + 1,by omega,by omega,?_⟩
         rw [hT]
         exact le_auto
     · have hT:s.data.toList.take i = s.data.toList:=List.take_of_length_le (by omega)
       rw [hT]
       generalize s.data.toList.flatMap wofC = W at *
       (refine w0 ?_;(repeat' first|refine W2.mk ?_ ?_|refine W1.mk fun hc=>?_))
       refine rt1 ?_
       exact rv_per rfl
theorem wd_Join (l:List (List UInt8)) (hw:∀ w ∈ l,wordR w = true) (hl:l.length ≤ 1000) (hj:(joinL l).length ≤ 1000000) :
   Fn Tryz.prog 28 [.bor 1 ((l.map ba).map strP)] (.tup2 (.per (rawP (.string (ba (joinL l))))) (boR true)):=by
 have e:(l.map ba).map (fun s:ByteArray=>s.data.toList) = l:=by rw [List.map_map];exact (List.map_congr_left (fun w _=>rfl)).trans (List.map_id _)
 have a1:=str_Join (l.map ba) ⟨#[32]⟩ (by rw [List.length_map];omega) (by rw [e];show (Lib.join l [32]).length ≤ _;rw [joinL_eq];omega)
 rw [e,show (⟨#[32]⟩:ByteArray).data.toList = [32] from rfl,joinL_eq] at a1
 have a1:Fn Tryz.prog 71 [strsB (l.map ba),sC ⟨#[32]⟩] (.per (rawP (.string (ba (joinL l))))):=a1
 generalize joinL l = J at *
 clear e hj
 refine fi Tryz.func28 Tryz.ntmps28 ?_
 (refine w0 ?_;(repeat' first|refine W2.mk ?_ ?_|refine W1.mk fun hc=>?_))
 refine AW_loopP (X:=Nat) (fun i=>i ≤ l.length) (fun i=>mkSt [(0,.bor 1 ((l.map ba).map strP)),(6,.bor 1 ((l.map ba).map strP)),(7,iC .i64 (l.length:Nat)),(8,iC .i64 (i:Nat))] []) (fun i=>l.length - i) 0 (Nat.zero_le _) ?_ ?_
 · exact le_auto
 · intro i h1
   by_cases hi:i < l.length
   · have hwi:=hw _ (List.getElem_mem hi)
     have him:i < (l.map ba).length:=by rw [List.length_map];exact hi
     have hmap:(l.map ba)[i] = ba l[i]:=List.getElem_map ..
     have c1:=str_Contains (l.map ba)[i] 32
     have c2:=str_Contains (l.map ba)[i] 10
     have hd:(l.map ba)[i].data.toList = l[i]:=by rw [hmap];rfl
     rw [hd] at c1 c2
     unfold wordR at hwi
     simp only [Bool.and_eq_true,Bool.not_eq_true'] at hwi
     rw [hwi.1.2] at c1
     rw [hwi.2] at c2
     have hne:=fun (q:(l.map ba)[i].toList = (⟨#[]⟩:ByteArray).toList)=>(by
       have q:l[i] = []:=hd.symm.trans (congrArg (fun s:ByteArray=>s.data.toList) ((toL_inj' _ _).1 q))
       rw [q] at hwi;simp at hwi:False)
     clear hmap hd
     clear a1 hw hwi
     (have kf1:=c1;have kf2:=c2;refine w0 ?_;(repeat' first|refine W2.mk ?_ ?_|refine W1.mk fun hc=>?_);all_goals clear kf2 kf1)
     refine ⟨i + 1,by omega,by omega,?_⟩
     exact le_auto
   · clear hw
     (have kc1:=a1;refine w0 ?_;(repeat' first|refine W2.mk ?_ ?_|refine W1.mk fun hc=>?_);all_goals clear kc1)
     refine rt2 ?_ ?_
     · exact rv_per rfl
     · exact rv_bool rfl rfl
end
end Go.Proofs.YthlffkjpklpkfaaGreat
