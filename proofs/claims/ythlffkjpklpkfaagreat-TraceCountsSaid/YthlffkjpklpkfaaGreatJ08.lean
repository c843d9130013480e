/- Texts joined: Adapt Byt Key Varint VarintRef Var It Base. -/
import Derived.Test.YthlffkjpklpkfaaGreatJ05
import Derived.Test.YthlffkjpklpkfaaGreatJ07
import Derived.Test.YthlffkjpklpkfaaGreatRows
import Derived.Test.YthlffkjpklpkfaaGreatJ01
import Derived.Outline
set_option maxRecDepth 10000
set_option maxHeartbeats 8000000
namespace Go.Proofs.YthlffkjpklpkfaaGreat
open Go.RowKit

def rawsE {α:Type} (enc:α → List Value) (x:α):List PV:=(enc x).map rawP
theorem lst_sl {α:Type} {top N:BP} {k:Nat} {enc:α → List Value} {l:List α} {w:World} {v:Value} (h:lstAt top N k (l.map (rawsE enc)) w v):Sl k enc w v l:=by
 obtain ⟨ad,c,b,of,h1,h2,h3,h4,h5,h6⟩:=h
 simp only [List.length_map] at h1 h2 h5
 refine ⟨ad,c,b,of,h1,h2,h3,fun h0=>(h5 h0).1,h4,fun i x hx j y hy=>?_⟩
 obtain ⟨_,q⟩:=h6 i (rawsE enc x) (by rw [List.getElem?_map,hx];rfl)
 obtain ⟨u,r1,_,r3⟩:=q j (rawP y) (by unfold rawsE;rw [List.getElem?_map,hy];rfl)
 have r3:u = y:=r3
 subst r3;exact r1
theorem sl_own {α:Type} {e k:Nat} {enc:α → List Value} (hE:Enc k enc) {N0:BP} {w w':World} {v:Value} {l:List α} (h:Own e k enc w w' v l):(Ret.own e k (l.map (rawsE enc))).rep N0 w w' v:=by
 obtain ⟨_,hl,h2⟩:=h
 rcases h2 with ⟨h3,h4⟩|⟨q,cap,cs,h3,h4,h5,h6,h7,h8,h9⟩
 · exact .inl ⟨h3,by rw [List.eq_nil_of_length_eq_zero h4];rfl⟩
 · refine .inr ⟨q,cap,cs,by rw [List.length_map];exact h3,h4,h5,by rw [List.length_map];exact h6,h7,h8,fun i ps hi=>?_⟩
   rw [List.getElem?_map] at hi
   cases hx:l[i]? with
   | none=>rw [hx] at hi;cases hi
   | some x=>
     rw [hx] at hi;cases hi
     refine ⟨by unfold rawsE;rw [List.length_map,hE.len],fun j A hj=>?_⟩
     unfold rawsE at hj
     rw [List.getElem?_map] at hj
     cases hy:(enc x)[j]? with
     | none=>rw [hy] at hj;cases hj
     | some y=>
       rw [hy] at hj;cases hj
       have hf:=flatMap_get k enc hE.len l i x hx j y hy
       refine ⟨y,?_,hE.one x y (List.mem_of_getElem? hy),rfl⟩
       rw [← h9,List.getElem?_take] at hf
       split at hf
       · simpa using hf
       · cases hf
/-- one argument, two, three -/
theorem args1 {N0:BP} {w:World} {vs:List Value} {c:Cnt} (h:argsRep N0 w vs [c]):∃ v,vs = [v] ∧ crep ⟨w,N0,fun _=>False,g0⟩ (fun _=>0) g0 w v c:=by
 obtain ⟨h1,h2⟩:=h
 match vs,h1 with
 | [v],_=>exact ⟨v,rfl,h2 0 v c rfl rfl⟩
theorem args2 {N0:BP} {w:World} {vs:List Value} {c d:Cnt} (h:argsRep N0 w vs [c,d]):∃ v u,vs = [v,u] ∧ crep ⟨w,N0,fun _=>False,g0⟩ (fun _=>0) g0 w v c ∧ crep ⟨w,N0,fun _=>False,g0⟩ (fun _=>0) g0 w u d:=by
 obtain ⟨h1,h2⟩:=h
 match vs,h1 with
 | [v,u],_=>exact ⟨v,u,rfl,h2 0 v c rfl rfl,h2 1 u d rfl rfl⟩
abbrev boR (b:Bool):Ret:=.per (rawP (.bool b))
abbrev inR (n:Int):Ret:=.per (rawP (.int .i64 n))
abbrev bytesB (l:List UInt8):Cnt:=.bor 1 (l.map byteP)
abbrev intsB (l:List Int):Cnt:=.bor 1 (l.map intP)
abbrev strsB (l:List ByteArray):Cnt:=.bor 1 (l.map strP)
section
end
/-- with how many bytes two texts begin likewise -/
def alikeL:List UInt8 → List UInt8 → Nat
 | x :: a,y :: b=>if x = y then alikeL a b + 1 else 0
 | _,_=>0
def alike (s t:ByteArray):Nat:=alikeL s.data.toList t.data.toList
theorem alikeL_le:∀ (a b:List UInt8),alikeL a b ≤ a.length ∧ alikeL a b ≤ b.length:=by
 intro a
 induction a with
 | nil=>intro b;simp [alikeL]
 | cons x a ih=>
   intro b
   cases b with
   | nil=>simp [alikeL]
   | cons y b=>
     unfold alikeL
     have:=ih b
     split
     · simp;omega
     · simp
theorem alike_le (s t:ByteArray):alike s t ≤ s.size ∧ alike s t ≤ t.size:=by
 have:=alikeL_le s.data.toList t.data.toList
 simpa [alike] using this
/-- what begins likewise, step by step -/
theorem alikeL_step:∀ (a b:List UInt8) (k:Nat) (h1:k < a.length) (h2:k < b.length),k ≤ alikeL a b → (a[k] = b[k] → k + 1 ≤ alikeL a b) ∧ (a[k] ≠ b[k] → alikeL a b = k):=by
 intro a
 induction a with
 | nil=>intro b k h1;simp at h1
 | cons x a ih=>
   intro b k h1 h2 hk
   cases b with
   | nil=>simp at h2
   | cons y b=>
     unfold alikeL at hk ⊢
     by_cases hxy:x = y
     · rw [if_pos hxy] at hk ⊢
       cases k with
       | zero=>exact ⟨fun _=>by omega,fun h=>absurd hxy h⟩
       | succ k=>
         have:=ih b k (by simpa using h1) (by simpa using h2) (by omega)
         simp only [List.getElem_cons_succ]
         exact ⟨fun h=>by have:=this.1 h;omega,fun h=>by have:=this.2 h;omega⟩
     · rw [if_neg hxy] at hk ⊢
       obtain rfl:k = 0:=by omega
       exact ⟨fun h=>absurd h hxy,fun _=>rfl⟩
theorem alikeL_pre:∀ (a b:List UInt8) (n:Nat),n ≤ a.length → (a.take n <+: b ↔ n ≤ alikeL a b):=by
 intro a
 induction a with
 | nil=>intro b n hn;simp at hn;subst hn;simp
 | cons x a ih=>
   intro b n hn
   cases n with
   | zero=>simp
   | succ n=>
     cases b with
     | nil=>simp [alikeL]
     | cons y b=>
       rw [List.take_succ_cons,List.cons_prefix_cons]
       unfold alikeL
       rw [ih b n (by simpa using hn)]
       by_cases h:x = y
       · simp [h]
       · simp [h]
theorem alike_self (a:ByteArray):alike a a = a.size:=by
 unfold alike
 have:∀ l:List UInt8,alikeL l l = l.length:=by
   intro l
   induction l with
   | nil=>rfl
   | cons x l ih=>simp [alikeL,ih]
 rw [this,str_len]
def hasP (s p:ByteArray):Bool:=decide (p.data.toList <+: s.data.toList)
theorem extract_list (s:ByteArray) (n:Nat):(s.extract 0 n).data.toList = s.data.toList.take n:=by
 rw [ByteArray.data_extract,Array.toList_extract]
 simp [List.extract]
theorem hasP_take (a b:ByteArray) (n:Nat) (h:n ≤ a.size):hasP b (a.extract 0 n) = decide (n ≤ alike a b):=by
 unfold hasP alike
 rw [extract_list]
 exact decide_eq_decide.2 (alikeL_pre _ _ n (by simpa using h))
theorem hasP_def (s p:ByteArray):hasP s p = ((s.extract 0 p.size).toList == p.toList):=by
 unfold hasP
 rw [str_toList,str_toList,extract_list,Bool.eq_iff_iff,decide_eq_true_eq,beq_iff_eq,List.prefix_iff_eq_take]
 rw [str_len]
 exact eq_comm
section
theorem lite_HasPrefix (s p:ByteArray):Fn Tryz.prog 178 [sC s,sC p] (boR (hasP s p)):=by
 refine fi Tryz.func178 Tryz.ntmps178 ?_
 (refine w0 ?_;(repeat' first|refine W2.mk ?_ ?_|refine W1.mk fun hc=>?_))
 all_goals refine rt1 ?_
 · exact rv_bool rfl (hasP_def s p).symm
 · refine rv_bool rfl ?_
   symm
   unfold hasP
   rw [decide_eq_false_iff_not]
   intro h
   have:=h.length_le
   simp at this
   omega
theorem str_HasPrefix (s p:ByteArray):Fn Tryz.prog 160 [sC s,sC p] (boR (hasP s p)):=by
 refine fi Tryz.func160 Tryz.ntmps160 ?_
 (refine w0 ?_;(repeat' (first|refine W2.mk ?_ ?_|refine W1.mk fun hc=>?_|((first|apply AL_t rfl|apply AL_0 rfl|apply AD_t rfl|apply AD_0 rfl);(focus (first|exact c_A (lite_HasPrefix _ _)|(apply u_g;(focus rfl);apply op_gyes rfl rfl rfl rfl rfl;first|exact c_A (lite_HasPrefix _ _))));refine w0 ?_))))
 refine rt1 ?_
 exact rv_bool rfl rfl
theorem ref_Alike (s t:ByteArray) (hb:s.size ≤ 1000000000000):Fn Tryz.prog 97 [sC s,sC t] (inR (alike s t:Nat)):=by
 have hal:=alike_le s t
 refine fi Tryz.func97 Tryz.ntmps97 ?_
 (refine w0 ?_;(repeat' first|refine W2.mk ?_ ?_|refine W1.mk fun hc=>?_))
 refine AW_loopP (fun k=>k ≤ alike s t) (fun k=>mkSt [(0,sC s),(1,sC t),(5,iC .i64 (k:Nat))] []) (fun k=>s.size - k) 0 (Nat.zero_le _) ?_ ?_
 · exact le_auto
 · intro k hk
   have hst:=alikeL_step s.data.toList t.data.toList k
   simp only [str_len] at hst
   by_cases h1:k < s.size ∧ k < t.size
   · have hs2:=hst h1.1 h1.2 hk
     (refine w0 ?_;(repeat' first|refine W2.mk ?_ ?_|refine W1.mk fun hc=>?_))
     · have e:=hs2.1 (UInt8.toNat_inj.1 (by omega))
       refine ⟨k + 1,e,by omega,?_⟩
       exact le_auto
     · have e:=hs2.2 (fun h=>hc (by rw [h]))
       refine rt1 ?_
       exact rv_int rfl (by unfold alike;omega)
   · by_cases h2:k < s.size
     · (refine w0 ?_;(repeat' first|refine W2.mk ?_ ?_|refine W1.mk fun hc=>?_))
       refine rt1 ?_
       exact rv_int rfl (by omega)
     · (refine w0 ?_;(repeat' first|refine W2.mk ?_ ?_|refine W1.mk fun hc=>?_))
       refine rt1 ?_
       exact rv_int rfl (by omega)
theorem key_Common (a b:ByteArray) (hb:a.size ≤ 1000000000000):Fn Tryz.prog 128 [strsB [a,b]] (.per (rawP (.string (a.extract 0 (alike a b))))):=by
 have hal:=alike_le a b
 refine fi Tryz.func128 Tryz.ntmps128 ?_
 (refine w0 ?_;(repeat' first|refine W2.mk ?_ ?_|refine W1.mk fun hc=>?_))
 refine AW_loopP (fun k=>k ≤ 2) (fun k=>mkSt [(0,strsB [a,b]),(3,iC .i64 ((if k = 2 then alike a b else a.size:Nat):Int)),(13,strsB [a,b]),(14,iC .i64 2),(15,iC .i64 (k:Nat))] []) (fun k=>2 - k) 0 (Nat.zero_le _) ?_ ?_
 · exact le_auto
 · intro k hk
   have hk3:k = 0 ∨ k = 1 ∨ k = 2:=by omega
   rcases hk3 with h0|h1|h2
   · subst h0
     (refine w0 ?_;(repeat' first|refine W2.mk ?_ ?_|refine W1.mk fun hc=>?_))
     refine AW_loopP (fun n=>alike a a ≤ n ∧ n ≤ a.size) (fun n=>mkSt [(0,strsB [a,b]),(3,iC .i64 (n:Nat)),(5,sC a),(13,strsB [a,b]),(14,iC .i64 2),(15,iC .i64 (0:Nat))] []) (fun n=>n) a.size ⟨(alike_le a a).1,Nat.le_refl _⟩ ?_ ?_
     · exact le_auto
     · rintro n ⟨hn1,hn2⟩
       have hp:=str_HasPrefix a (a.extract 0 n)
       rw [hasP_take a a n hn2] at hp
       (have kc1:=hp;refine w0 ?_;(repeat' first|refine W2.mk ?_ ?_|refine W1.mk fun hc=>?_);all_goals clear kc1)
       · have hn:alike a a ≤ n - 1:=by omega
         refine ⟨n - 1,⟨hn,by omega⟩,by omega,?_⟩
         exact le_auto
       · have hn:n = alike a a:=by omega
         subst hn
         refine ⟨1,by omega,by omega,?_⟩
         rw [alike_self]
         exact le_auto
   · subst h1
     (refine w0 ?_;(repeat' first|refine W2.mk ?_ ?_|refine W1.mk fun hc=>?_))
     refine AW_loopP (fun n=>alike a b ≤ n ∧ n ≤ a.size) (fun n=>mkSt [(0,strsB [a,b]),(3,iC .i64 (n:Nat)),(5,sC b),(13,strsB [a,b]),(14,iC .i64 2),(15,iC .i64 (1:Nat))] []) (fun n=>n) a.size ⟨(alike_le a b).1,Nat.le_refl _⟩ ?_ ?_
     · exact le_auto
     · rintro n ⟨hn1,hn2⟩
       have hp:=str_HasPrefix b (a.extract 0 n)
       rw [hasP_take a b n hn2] at hp
       (have kc1:=hp;refine w0 ?_;(repeat' first|refine W2.mk ?_ ?_|refine W1.mk fun hc=>?_);all_goals clear kc1)
       · have hn:alike a b ≤ n - 1:=by omega
         refine ⟨n - 1,⟨hn,by omega⟩,by omega,?_⟩
         exact le_auto
       · have hn:n = alike a b:=by omega
         subst hn
         refine ⟨2,by omega,by omega,?_⟩
         skip
         exact le_auto
   · subst h2
     (refine w0 ?_;(repeat' first|refine W2.mk ?_ ?_|refine W1.mk fun hc=>?_))
     refine rt1 ?_
     exact rv_str rfl (by simp)
end

def numB (n:Nat):List UInt8:=if n < 128 then [UInt8.ofNat n] else UInt8.ofNat (128 + n % 128) :: numB (n / 128)
theorem numB_lt {n:Nat} (h:n < 128):numB n = [UInt8.ofNat n]:=by rw [numB,if_pos h]
theorem numB_ge {n:Nat} (h:¬ n < 128):numB n = UInt8.ofNat (128 + n % 128) :: numB (n / 128):=by rw [numB,if_neg h]
theorem numB_len (k:Nat):∀ n,n < 128 ^ (k + 1) → (numB n).length ≤ k + 1:=by
 induction k with
 | zero=>intro n hn;rw [numB_lt (by simpa using hn)];simp
 | succ k ih=>
   intro n hn
   by_cases h:n < 128
   · rw [numB_lt h];simp
   · rw [numB_ge h]
     have:=ih (n / 128) (by rw [Nat.div_lt_iff_lt_mul (by decide)];rw [← Nat.pow_succ];exact hn)
     simp;omega
theorem numB_len9 (n:Nat) (h:n ≤ 9223372036854775807):(numB n).length ≤ 9:=numB_len 8 n (by omega)
theorem tiB:TI Tryz.prog 27 5 1 1:=TI.mk' Tryz.underlying27 (by kernel_rfl)
theorem zB:(Tryz.prog.info? 5).bind (·.zero) = some (.int .u8 0):=by kernel_rfl

theorem byteLow (m:Nat) (h:m < 128):encB (UInt8.ofNat m) = [.int .u8 (m:Int)]:=by
 unfold encB;rw [UInt8.toNat_ofNat'];congr 2;omega
theorem byteHigh (m:Nat):encB (UInt8.ofNat (128 + m % 128)) = [.int .u8 ((m:Int) % 128 + 128)]:=by
 unfold encB;rw [UInt8.toNat_ofNat'];congr 2;omega

theorem one_any (n0:Int) (v:Value) (l:List UInt8) (wB w:World) (h0:0 ≤ n0) (hn:n0 ≤ 9223372036854775807) (hl:l.length ≤ 70368744177664) (hv:Own 5 1 encB wB w v l) :
   Calls Tryz.prog 79 #[v,.int .i64 n0] w (RetOwn 5 1 encB wB (l ++ numB n0.toNat)):=by
 obtain ⟨n,rfl⟩:=Int.eq_ofNat_of_zero_le h0
 have hlen9:=numB_len9 n (by omega)
 have e0:((n:Int)).toNat = n:=by omega
 rw [e0]
 clear e0
 go_enter Tryz.func79,Tryz.ntmps79
 go_wp2
 go_loopw [0,1] (fun v' i wr=>∃ (m:Nat) (done:List UInt8),i = .int .i64 m ∧ m ≤ n ∧ Own 5 1 encB wB wr v' (l ++ done) ∧ done.length ≤ 9 ∧ Hid (done ++ numB m = numB n)) (fun _ i _=>(intOf i).toNat)
 case atStart=>exact ⟨n,[],rfl,Nat.le_refl _,by simpa using hv,by simp,Lib.hid rfl⟩
 case round=>
   obtain ⟨m,done,rfl,hm,hown,hd,HD⟩:=hrel
   by_cases hlt:m < 128
   · go_wp2_with (at_builtin;refine wpList_app rfl _ _ 27 rfl tiB encB_ok wB _ [UInt8.ofNat m] _ _ rfl rfl (hown.alloc _) (Sl.new1 (enc:=encB) encB_ok.len _ _ _ _ (byteLow m hlt)) ?_ ?_ ?_)
     · (first|omega|(simp;omega)|(unfold maxLen;omega)|(unfold maxLen;simp;omega))
     · (first|omega|(simp;omega)|(unfold maxLen;omega)|(unfold maxLen;simp;omega))
     · intro v' w2 r HR hown2 _ _
       go_wp2
       go_ret
       have h1:=HD.out
       rw [numB_lt hlt] at h1
       have e:l ++ numB n = r:=by rw [← h1];simp [HR.out]
       rw [e]
       exact ⟨_,rfl,hown2⟩
   · have hg:128 ≤ m:=by omega
     go_wp2_with (at_builtin;refine wpList_app rfl _ _ 27 rfl tiB encB_ok wB _ [UInt8.ofNat (128 + m % 128)] _ _ rfl rfl (hown.alloc _) (Sl.new1 (enc:=encB) encB_ok.len _ _ _ _ (byteHigh m)) ?_ ?_ ?_)
     · (first|omega|(simp;omega)|(unfold maxLen;omega)|(unfold maxLen;simp;omega))
     · (first|omega|(simp;omega)|(unfold maxLen;omega)|(unfold maxLen;simp;omega))
     · intro v' w2 r HR hown2 _ _
       have h1:=HD.out
       rw [numB_ge hlt] at h1
       have h2:(done ++ [UInt8.ofNat (128 + m % 128)]).length ≤ 9:=by
         have:=congrArg List.length h1
         simp at this ⊢;omega
       clear hown
       go_wp2
       go_roundw
       case rel=>exact ⟨m / 128,done ++ [UInt8.ofNat (128 + m % 128)],by go_num,by omega,by rw [show l ++ (done ++ [UInt8.ofNat (128 + m % 128)]) = r by simp [HR.out]];exact hown2,h2,Lib.hid (by simpa using h1)⟩
       case measure=>simp [intOf];omega

def numI (n:Int):List UInt8:=numB n.toNat
def okNum (n:Int):Prop:=0 ≤ n ∧ n ≤ 281474976710656
theorem numI_len (n:Int) (h:n ≤ 9223372036854775807):(numI n).length ≤ 9:=numB_len9 _ (by omega)
theorem nums_len (ns:List Int) (h:∀ n ∈ ns,okNum n):(ns.flatMap numI).length ≤ 9 * ns.length:=by
 induction ns with
 | nil=>simp
 | cons n ns ih=>
   have h1:=numI_len n (by have:=(h n (by simp)).2;omega)
   have h2:=ih (fun m hm=>h m (by simp [hm]))
   simp only [List.flatMap_cons,List.length_append,List.length_cons];omega

theorem put_ok (v vl:Value) (l:List UInt8) (ns:List Int) (w:World) (hv:Bs w v l) (hl:Sl 1 encI w vl ns) (hb:l.length + 9 * ns.length ≤ 70368744177664)
   (hok:∀ n ∈ ns,okNum n):Calls Tryz.prog 35 #[v,vl] w (RetOwn2 5 1 encB w (l ++ ns.flatMap numI) (.int .i64 0)):=by
 obtain ⟨a,c,b,o,rfl,h1,h2,h3,h4⟩:=hl.openI
 have h5:=len_le h1 h2
 clear h1 h2 hl
 go_enter Tryz.func35,Tryz.ntmps35
 go_wp2
 go_loop [13] (fun i=>∃ k:Nat,k ≤ ns.length ∧ i = .int .i64 k) (fun i=>ns.length - (intOf i).toNat)
 case atStart=>exact ⟨0,Nat.zero_le _,rfl⟩
 case round=>
   obtain ⟨k,hk,rfl⟩:=hrel
   by_cases hlt:k < ns.length
   · obtain rfl:=h3 (by omega)
     have hc:=h4 k hlt
     obtain ⟨g1,g2⟩:=hok ns[k] (by simp)
     clear h3 h4 hok
     go_wp2
     go_round
     case rel=>exact ⟨k + 1,by omega,by go_num⟩
     case measure=>simp [intOf];omega
   · go_wp2_with (at_builtin;refine wpList_app rfl _ _ 27 rfl tiB encB_ok w [] l _ _ rfl rfl (Own.empty (Ext.refl _)) (hv.ext ((Ext.refl _).alloc _)) ?_ ?_ ?_)
     · (first|omega|(simp;omega)|(unfold maxLen;omega)|(unfold maxLen;simp;omega))
     · (first|omega|(simp;omega)|(unfold maxLen;omega)|(unfold maxLen;simp;omega))
     · intro v1 w1 r HR hown _ _
       have HR':Hid (r = l):=Lib.hid (by simpa using HR.out)
       clear HR
       go_wp2
       go_loopw [8,29] (fun v i wr=>∃ k:Nat,k ≤ ns.length ∧ i = .int .i64 k ∧ Own 5 1 encB w wr v (l ++ (ns.take k).flatMap numI)) (fun _ i _=>ns.length - (intOf i).toNat)
       case atStart=>exact ⟨0,Nat.zero_le _,rfl,by rw [← HR'.out];simpa using hown⟩
       case round=>
         obtain ⟨j,hj,rfl,hown⟩:=hrel
         by_cases hjt:j < ns.length
         · obtain rfl:=h3 (by omega)
           have hc:=hown.ext.cell (h4 j hjt)
           obtain ⟨g1,g2⟩:=hok ns[j] (by simp)
           have hs:=Lib.hid (take_snoc ns j hjt)
           have hlen:=nums_len (ns.take j) (fun n hn=>hok n (List.mem_of_mem_take hn))
           have hlj:(ns.take j).length ≤ j:=List.length_take_le _ _
           have hlen2:(l ++ (ns.take j).flatMap numI).length ≤ 70368744177664:=by rw [List.length_append];omega
           clear h3 h4 hlen hlj
           go_wp2_with fail
           refine (one_any _ _ _ w _ g1 (by omega) hlen2 hown).mono ?_
           rintro e w2 ⟨v2,rfl,hown2⟩
           have HO:=Lib.hid hown2
           clear hown hown2
           go_wp2
           go_roundw
           case rel=>exact ⟨j + 1,by omega,by go_num,by rw [hs.out,List.flatMap_append,← List.append_assoc];simpa [numI] using HO.out⟩
           case measure=>simp [intOf];omega
         · have HT:=Lib.hid (show ns.take j = ns from List.take_of_length_le (by omega))
           go_wp2
           go_ret2
           rw [HT.out] at hown
           exact ⟨_,rfl,hown⟩

theorem put_bad (v vl:Value) (ns:List Int) (w:World) (hl:Sl 1 encI w vl ns)
   (hbad:¬ ∀ n ∈ ns,okNum n):Calls Tryz.prog 35 #[v,vl] w fun e w'=>e = .returned (.tuple #[.slice none 0 0,.int .i64 2]) ∧ w = w':=by
 obtain ⟨a,c,b,o,rfl,h1,h2,h3,h4⟩:=hl.openI
 have h5:=len_le h1 h2
 clear h1 h2 hl
 have HB:=Lib.hid hbad
 clear hbad
 go_enter Tryz.func35,Tryz.ntmps35
 go_wp2
 go_loop [7,13] (fun _ i=>∃ k:Nat,k ≤ ns.length ∧ i = .int .i64 k ∧ Hid (∀ n ∈ ns.take k,okNum n)) (fun _ i=>ns.length - (intOf i).toNat)
 case atStart=>exact ⟨0,Nat.zero_le _,rfl,Lib.hid (by simp)⟩
 case round=>
   obtain ⟨k,hk,rfl,HK⟩:=hrel
   by_cases hlt:k < ns.length
   · obtain rfl:=h3 (by omega)
     have hc:=h4 k hlt
     have HS:=Lib.hid (take_snoc ns k hlt)
     clear h3 h4
     by_cases g1:ns[k] < 0
     · go_wp2
       go_ret2
       exact ⟨rfl,rfl⟩
     · by_cases g2:281474976710656 < ns[k]
       · go_wp2
         go_ret2
         exact ⟨rfl,rfl⟩
       · go_wp2
         go_round
         case rel=>
           refine ⟨k + 1,by omega,by go_num,Lib.hid ?_⟩
           rw [HS.out]
           intro n hn
           rcases List.mem_append.1 hn with h|h
           · exact HK.out n h
           · simp at h;subst h;exact ⟨by omega,by omega⟩
         case measure=>simp [intOf];omega
   · exact absurd (fun n hn=>HK.out n (by rw [List.take_of_length_le (by omega)];exact hn)) HB.out

def textB (s:ByteArray):List UInt8:=numB s.size ++ s.data.toList

theorem refBytes_any (k:Nat):∀ (n:Nat) (w:World),n ≤ k → n ≤ 9223372036854775807 →
   Calls Tryz.prog 53 #[.int .i64 n] w (RetOwn 5 1 encB w (numB n)):=by
 induction k with
 | zero=>
   intro n w hk hn
   obtain rfl:n = 0:=by omega
   go_enter Tryz.func53,Tryz.ntmps53
   go_wp2_with fail
   go_ret
   exact ⟨_,rfl,by rw [numB_lt (by decide)];exact Own.lit encB_ok.len (Ext.refl _) _ _ (by simpa using byteLow 0 (by decide)) _ rfl (by simp [maxLen])⟩
 | succ k ih=>
   intro n w hk hn
   by_cases hlt:n < 128
   · go_enter Tryz.func53,Tryz.ntmps53
     go_wp2_with fail
     go_ret
     exact ⟨_,rfl,by rw [numB_lt hlt];exact Own.lit encB_ok.len (Ext.refl _) _ _ (by simpa using byteLow n hlt) _ rfl (by simp [maxLen])⟩
   · have hg:128 ≤ n:=by omega
     have HI:=Lib.hid (fun w=>ih (n / 128) w (by omega) (by omega))
     have hlen9:=numB_len9 (n / 128) (by omega)
     clear ih
     go_enter Tryz.func53,Tryz.ntmps53
     go_wp2_with fail
     have e1:((n:Int) / 128) = ((n / 128:Nat):Int):=by omega
     rw [e1]
     clear e1
     refine (HI.out _).mono ?_
     rintro e w2 ⟨v2,rfl,hown2⟩
     have hown:Own 5 1 encB w w2 (.slice (some ⟨w.heap.size,0,none⟩) 1 1) [UInt8.ofNat (128 + n % 128)]:=
       (Own.lit encB_ok.len (Ext.refl w) _ _ (by simp only [List.flatMap_cons,List.flatMap_nil,List.append_nil];rw [byteHigh,Int.add_comm]) _ rfl (by simp [maxLen])).extend hown2.ext
     have hs2:=hown2.sl encB_ok
     clear hown2 HI
     go_wp2_with (at_builtin;refine wpList_app rfl _ _ 27 rfl tiB encB_ok w _ (numB (n / 128)) _ _ rfl rfl hown hs2 ?_ ?_ ?_)
     · (first|omega|(simp;omega)|(unfold maxLen;omega)|(unfold maxLen;simp;omega))
     · (first|omega|(simp;omega)|(unfold maxLen;omega)|(unfold maxLen;simp;omega))
     · intro v3 w3 r HR hown3 _ _
       have HR':Hid (r = numB n):=Lib.hid (by rw [numB_ge hlt];simpa using HR.out)
       go_wp2
       go_ret
       exact ⟨_,rfl,by rw [← HR'.out];exact hown3⟩

theorem refPut_any (vl:Value) (ns:List Int) (w:World) (hl:Sl 1 encI w vl ns) (hb:ns.length ≤ 7036874417766)
   (hok:∀ n ∈ ns,okNum n):Calls Tryz.prog 48 #[vl] w (RetOwn 5 1 encB w (ns.flatMap numI)):=by
 obtain ⟨a,c,b,o,rfl,h1,h2,h3,h4⟩:=hl.openI
 clear h1 h2 hl
 go_enter Tryz.func48,Tryz.ntmps48
 go_wp2
 go_loopw [3,4] (fun v i wr=>∃ k:Nat,k ≤ ns.length ∧ i = .int .i64 k ∧ Own 5 1 encB w wr v ((ns.take k).flatMap numI)) (fun _ i _=>ns.length - (intOf i).toNat)
 case atStart=>exact ⟨0,Nat.zero_le _,rfl,Own.nil (Ext.refl _)⟩
 case round=>
   obtain ⟨j,hj,rfl,hown⟩:=hrel
   by_cases hjt:j < ns.length
   · obtain rfl:=h3 (by omega)
     have hc:=hown.ext.cell (h4 j hjt)
     obtain ⟨g1,g2⟩:=hok ns[j] (by simp)
     have hs:=Lib.hid (take_snoc ns j hjt)
     have hlen:=nums_len (ns.take j) (fun n hn=>hok n (List.mem_of_mem_take hn))
     have hlj:(ns.take j).length ≤ j:=List.length_take_le _ _
     have hl9:=numI_len ns[j] (by omega)
     generalize hx:ns[j] = x at *
     have HX:=Lib.hid hx
     obtain ⟨m,rfl⟩:=Int.eq_ofNat_of_zero_le g1
     clear h3 h4 hx
     go_wp2_with fail
     refine (refBytes_any _ _ _ (Nat.le_refl _) (by omega)).mono ?_
     rintro e w2 ⟨v2,rfl,hown2⟩
     have hown1:=hown.extend hown2.ext
     have hs2:=hown2.sl encB_ok
     clear hown hown2 hc
     generalize hL:(ns.take j).flatMap numI = L at *
     have HL:=Lib.hid hL
     clear hL
     have hl9':(numB m).length ≤ 9:=hl9
     clear hl9
     go_wp2_with (at_builtin;refine wpList_app rfl _ _ 27 rfl tiB encB_ok w _ _ _ _ rfl rfl hown1 hs2 ?_ ?_ ?_)
     · (first|omega|(simp;omega)|(unfold maxLen;omega)|(unfold maxLen;simp;omega))
     · (first|omega|(simp;omega)|(unfold maxLen;omega)|(unfold maxLen;simp;omega))
     · intro v3 w3 r HR hown3 _ _
       clear hown1
       go_wp2
       go_roundw
       case rel=>exact ⟨j + 1,by omega,by go_num,by rw [hs.out,List.flatMap_append,HL.out,show L ++ List.flatMap numI [(m:Int)] = r by simp [HR.out,numI]];exact hown3⟩
       case measure=>simp [intOf];omega
   · have HT:=Lib.hid (show ns.take j = ns from List.take_of_length_le (by omega))
     go_wp2
     go_ret
     rw [HT.out] at hown
     exact ⟨_,rfl,hown⟩

theorem refText_any (s:ByteArray) (w:World) (hb:s.size ≤ 70368744177664):Calls Tryz.prog 95 #[.string s] w (RetOwn 5 1 encB w (textB s)):=by
 have hlen9:=numB_len9 s.size (by omega)
 go_enter Tryz.func95,Tryz.ntmps95
 go_wp2_with fail
 refine (refBytes_any _ _ _ (Nat.le_refl _) (by omega)).mono ?_
 rintro e w1 ⟨v1,rfl,hown1⟩
 go_wp2
 go_loopw [3,4] (fun v i wr=>∃ k:Nat,k ≤ s.size ∧ i = .int .i64 k ∧ Own 5 1 encB w wr v (numB s.size ++ s.data.toList.take k)) (fun _ i _=>s.size - (intOf i).toNat)
 case atStart=>exact ⟨0,Nat.zero_le _,rfl,by simpa using hown1⟩
 case round=>
   obtain ⟨j,hj,rfl,hown⟩:=hrel
   by_cases hjt:j < s.size
   · have hs:=Lib.hid (str_snoc s j hjt)
     have hlj:(s.data.toList.take j).length ≤ j:=List.length_take_le _ _
     have hL:(numB s.size ++ s.data.toList.take j).length ≤ 9 + j:=by rw [List.length_append];omega
     generalize hx:numB s.size ++ s.data.toList.take j = L at *
     have HX:=Lib.hid hx
     clear hx hlj hown1
     go_wp2_with (at_builtin;refine wpList_app rfl _ _ 27 rfl tiB encB_ok w _ [s[j]] _ _ rfl rfl (hown.alloc _) (Sl.new1 (enc:=encB) encB_ok.len _ _ _ _ rfl) ?_ ?_ ?_)
     · (first|omega|(simp;omega)|(unfold maxLen;omega)|(unfold maxLen;simp;omega))
     · (first|omega|(simp;omega)|(unfold maxLen;omega)|(unfold maxLen;simp;omega))
     · intro v3 w3 r HR hown3 _ _
       clear hown
       go_wp2
       go_roundw
       case rel=>exact ⟨j + 1,by omega,by go_num,by rw [hs.out,← List.append_assoc,HX.out,show L ++ [s[j]] = r by rw [HR.out]];exact hown3⟩
       case measure=>simp [intOf];omega
   · have HT:=Lib.hid (str_all s j (by omega))
     go_wp2
     go_ret
     rw [HT.out] at hown
     exact ⟨_,rfl,hown⟩

theorem text_any (v vl:Value) (l:List UInt8) (ss:List ByteArray) (w:World) (hv:Bs w v l) (hl:Sl 1 encS w vl ss) (hb:l.length + (ss.flatMap textB).length ≤ 7036874417766) :
   Calls Tryz.prog 90 #[v,vl] w (RetOwn 5 1 encB w (l ++ ss.flatMap textB)):=by
 obtain ⟨a,c,b,o,rfl,h1,h2,h3,h4⟩:=hl.openS
 have h5:=len_le h1 h2
 clear h1 h2 hl
 go_enter Tryz.func90,Tryz.ntmps90
 go_wp2_with (at_builtin;refine wpList_app rfl _ _ 27 rfl tiB encB_ok w [] l _ _ rfl rfl (Own.empty (Ext.refl _)) (hv.ext ((Ext.refl _).alloc _)) ?_ ?_ ?_)
 · (first|omega|(simp;omega)|(unfold maxLen;omega)|(unfold maxLen;simp;omega))
 · (first|omega|(simp;omega)|(unfold maxLen;omega)|(unfold maxLen;simp;omega))
 · intro v1 w1 r HR hown _ _
   have HR':Hid (r = l):=Lib.hid (by simpa using HR.out)
   clear HR
   go_wp2
   go_loopw [5,13] (fun v i wr=>∃ k:Nat,k ≤ ss.length ∧ i = .int .i64 k ∧ Own 5 1 encB w wr v (l ++ (ss.take k).flatMap textB)) (fun _ i _=>ss.length - (intOf i).toNat)
   case atStart=>exact ⟨0,Nat.zero_le _,rfl,by rw [← HR'.out];simpa using hown⟩
   case round=>
     obtain ⟨j,hj,rfl,hown⟩:=hrel
     by_cases hjt:j < ss.length
     · obtain rfl:=h3 (by omega)
       have hc:=hown.ext.cell (h4 j hjt)
       have hs:=Lib.hid (take_snoc ss j hjt)
       have hlen:(l ++ (ss.take j).flatMap textB).length + (textB ss[j]).length ≤ 7036874417766:=by
         have h:(ss.take (j + 1) ++ ss.drop (j + 1)) = ss:=List.take_append_drop _ _
         rw [← h,hs.out,List.flatMap_append,List.flatMap_append] at hb
         simp at hb ⊢;omega
       have hsz:(textB ss[j]).length = (numB ss[j].size).length + ss[j].size:=by simp [textB]
       generalize ss[j] = s at *
       have HS:=Lib.hid hsz
       have hsz1:(l ++ (ss.take j).flatMap textB).length + ((numB s.size).length + s.size) ≤ 7036874417766:=by omega
       clear h3 h4 hlen hsz hv hb
       generalize hx:l ++ (ss.take j).flatMap textB = L at *
       have HX:=Lib.hid hx
       clear hx
       go_wp2_with fail
       refine (one_any _ _ _ w _ (by omega) (by omega) (by omega) hown).mono ?_
       rintro e w2 ⟨v2,rfl,hown2⟩
       have ht:Hid (((s.size:Int)).toNat = s.size):=Lib.hid (by omega)
       rw [ht.out] at hown2
       clear hown hc
       go_wp2_with (at_builtin;refine wpList_apps rfl _ _ 27 9 rfl tiB zB Tryz.underlying9 w _ s _ rfl rfl hown2 ?_ ?_)
       · (first|omega|(simp;omega)|(unfold maxLen;omega)|(unfold maxLen;simp;omega))
       · intro v3 w3 r HR hown3 _
         clear hown2
         go_wp2
         go_roundw
         case rel=>exact ⟨j + 1,by omega,by go_num,by rw [hs.out,List.flatMap_append,← List.append_assoc,HX.out,show L ++ List.flatMap textB [s] = r by simp [HR.out,textB]];exact hown3⟩
         case measure=>simp [intOf];omega
     · have HT:=Lib.hid (show ss.take j = ss from List.take_of_length_le (by omega))
       go_wp2
       go_ret
       rw [HT.out] at hown
       exact ⟨_,rfl,hown⟩
abbrev ownB (l:List UInt8):Ret:=.own 5 1 (l.map byteP)
theorem varint_Put (l:List UInt8) (ns:List Int) (hb:l.length + 9 * ns.length ≤ 1000000000000) (hok:∀ n ∈ ns,okNum n) :
   Fn Tryz.prog 35 [bytesB l,intsB ns] (.tup2 (ownB (l ++ ns.flatMap numI)) (.per (rawP (.int .i64 0)))):=by
 refine ⟨⟨_,Tryz.func35,by kernel_rfl,by kernel_rfl⟩,fun N0 w vs _ ha=>?_⟩
 obtain ⟨v,u,rfl,h1,h2⟩:=args2 ha
 refine Calls.mono (put_ok v u l ns w (lst_bs h1) (lst_sl h2) (by omega) hok) ?_
 rintro e w' ⟨v',rfl,h⟩
 exact ⟨_,rfl,h.ext,_,_,rfl,sl_own encB_ok h,rfl⟩
theorem varint_Text (l:List UInt8) (ss:List ByteArray) (hb:l.length + (ss.flatMap textB).length ≤ 1000000000000) :
   Fn Tryz.prog 90 [bytesB l,strsB ss] (ownB (l ++ ss.flatMap textB)):=by
 refine ⟨⟨_,Tryz.func90,by kernel_rfl,by kernel_rfl⟩,fun N0 w vs _ ha=>?_⟩
 obtain ⟨v,u,rfl,h1,h2⟩:=args2 ha
 refine Calls.mono (text_any v u l ss w (lst_bs h1) (lst_sl h2) (by omega)) ?_
 rintro e w' ⟨v',rfl,h⟩
 exact ⟨_,rfl,h.ext,sl_own encB_ok h⟩
theorem ref_Put (ns:List Int) (hb:ns.length ≤ 1000000000) (hok:∀ n ∈ ns,okNum n):Fn Tryz.prog 48 [intsB ns] (ownB (ns.flatMap numI)):=by
 refine ⟨⟨_,Tryz.func48,by kernel_rfl,by kernel_rfl⟩,fun N0 w vs _ ha=>?_⟩
 obtain ⟨v,rfl,h1⟩:=args1 ha
 refine Calls.mono (refPut_any v ns w (lst_sl h1) (by omega) hok) ?_
 rintro e w' ⟨v',rfl,h⟩
 exact ⟨_,rfl,h.ext,sl_own encB_ok h⟩
theorem ref_Text (s:ByteArray) (hb:s.size ≤ 70368744177664):Fn Tryz.prog 95 [sC s] (ownB (textB s)):=by
 refine ⟨⟨_,Tryz.func95,by kernel_rfl,by kernel_rfl⟩,fun N0 w vs _ ha=>?_⟩
 obtain ⟨v,rfl,h1⟩:=args1 ha
 obtain rfl:v = .string s:=h1
 refine Calls.mono (refText_any s w hb) ?_
 rintro e w' ⟨v',rfl,h⟩
 exact ⟨_,rfl,h.ext,sl_own encB_ok h⟩
structure It where
 key:ByteArray
 rep:Int
 cnt:Int
 rank:Int
 prio:Int
 dead:Bool
 body:ByteArray
deriving DecidableEq
def encIt (x:It):List Value:=[.string x.key,.int .i64 x.rep,.int .i64 x.cnt,.int .i64 x.rank,.int .i64 x.prio,.bool x.dead,.string x.body]
def keyR (s:ByteArray):Bool:=decide (1 ≤ s.size ∧ s.size ≤ 16)
def verR (r c:Int):Bool:=decide (1 ≤ r ∧ r ≤ 16 ∧ 1 ≤ c ∧ c ≤ 1099511627776)
def itR (x:It):Bool:=keyR x.key && verR x.rep x.cnt && decide (1 ≤ x.rank ∧ x.rank ≤ 1099511627776 ∧ 0 ≤ x.prio ∧ x.prio ≤ 255 ∧ x.body.size ≤ 64 ∧ (x.dead = true → x.body.size = 0))
theorem encIt_ok:Enc 7 encIt:=⟨by decide,fun _=>rfl,fun x u hu=>by
 simp only [encIt,List.mem_cons,List.not_mem_nil,or_false] at hu
 rcases hu with rfl|rfl|rfl|rfl|rfl|rfl|rfl <;> rfl⟩
abbrev itP (x:It):List PV:=[rawP (.string x.key),rawP (.int .i64 x.rep),rawP (.int .i64 x.cnt),rawP (.int .i64 x.rank),rawP (.int .i64 x.prio),rawP (.bool x.dead),rawP (.string x.body)]
abbrev itC (x:It):Cnt:=.per (aggP (itP x))
abbrev vrP (r c:Int):List PV:=[rawP (.int .i64 r),rawP (.int .i64 c)]
abbrev vrC (r c:Int):Cnt:=.per (aggP (vrP r c))
theorem per_bool {a b:Bool} (h:a = b):Cnt.per (rawP (.bool a)) = .per (rawP (.bool b)):=by rw [h]

theorem nil_toList:(⟨#[]⟩:ByteArray).toList = []:=by rw [str_toList]
theorem sz_nil (s:ByteArray):s.toList = [] ↔ s.size = 0:=by
 rw [str_toList,← List.length_eq_zero_iff,str_len]
theorem key_Right (s:ByteArray):Fn Tryz.prog 132 [sC s] (boR (keyR s)):=by
 refine fi Tryz.func132 Tryz.ntmps132 ?_
 (repeat' (first|refine AW_seq ?_|refine AW_block ?_|refine AW_skip ?_|refine AW_exit ?_|refine AW_ret ?_|refine AW_region ?_|refine AW_draw mixed0 ?_|refine AL_nil ?_|refine AD_nil (by kernel_rfl) ?_|refine thenA_n ?_|refine thenA_r ?_|refine thenA_e ?_|refine inB_n ?_|refine inB_r ?_|refine inB_hit ?_|refine inB_miss rfl ?_|(refine AW_cond_per rfl rfl (fun hc=>?_) (fun hc=>?_) <;> (try rw [Bool.not_eq_true'] at hc) <;> (try rw [Bool.not_eq_false'] at hc) <;> (try first|rw [decide_eq_true_eq] at hc|rw [decide_eq_false_iff_not] at hc|rw [beq_iff_eq] at hc|rw [beq_eq_false_iff_ne] at hc|rw [bne_iff_ne] at hc|rw [bne_eq_false_iff_eq] at hc) <;> (repeat rw [List.length_map] at hc) <;> (try first|contradiction|(exfalso;omega)|(exfalso;simp [*] at hc;done)))|((first|apply AL_t rfl|apply AL_0 rfl|apply AD_t rfl|apply AD_0 rfl);focus (first|exact o_auto))))
 refine rt1 ?_
 refine rv_per (per_bool ?_)
 rw [keyR,Bool.eq_iff_iff];simp;omega
theorem rkey_Right (s:ByteArray):Fn Tryz.prog 119 [sC s] (boR (keyR s)):=by
 refine fi Tryz.func119 Tryz.ntmps119 ?_
 (repeat' (first|refine AW_seq ?_|refine AW_block ?_|refine AW_skip ?_|refine AW_exit ?_|refine AW_ret ?_|refine AW_region ?_|refine AW_draw mixed0 ?_|refine AL_nil ?_|refine AD_nil (by kernel_rfl) ?_|refine thenA_n ?_|refine thenA_r ?_|refine thenA_e ?_|refine inB_n ?_|refine inB_r ?_|refine inB_hit ?_|refine inB_miss rfl ?_|(refine AW_cond_per rfl rfl (fun hc=>?_) (fun hc=>?_) <;> (try rw [Bool.not_eq_true'] at hc) <;> (try rw [Bool.not_eq_false'] at hc) <;> (try first|rw [decide_eq_true_eq] at hc|rw [decide_eq_false_iff_not] at hc|rw [beq_iff_eq] at hc|rw [beq_eq_false_iff_ne] at hc|rw [bne_iff_ne] at hc|rw [bne_eq_false_iff_eq] at hc) <;> (repeat rw [List.length_map] at hc) <;> (try first|contradiction|(exfalso;omega)|(exfalso;simp [*] at hc;done)))|((first|apply AL_t rfl|apply AL_0 rfl|apply AD_t rfl|apply AD_0 rfl);focus (first|exact o_auto))))
 refine rt1 ?_
 refine rv_per (per_bool ?_)
 rw [keyR,Bool.eq_iff_iff];simp;omega
theorem ver_Right (r c:Int):Fn Tryz.prog 133 [vrC r c] (boR (verR r c)):=by
 refine fi Tryz.func133 Tryz.ntmps133 ?_
 (repeat' (first|refine AW_seq ?_|refine AW_block ?_|refine AW_skip ?_|refine AW_exit ?_|refine AW_ret ?_|refine AW_region ?_|refine AW_draw mixed0 ?_|refine AL_nil ?_|refine AD_nil (by kernel_rfl) ?_|refine thenA_n ?_|refine thenA_r ?_|refine thenA_e ?_|refine inB_n ?_|refine inB_r ?_|refine inB_hit ?_|refine inB_miss rfl ?_|(refine AW_cond_per rfl rfl (fun hc=>?_) (fun hc=>?_) <;> (try rw [Bool.not_eq_true'] at hc) <;> (try rw [Bool.not_eq_false'] at hc) <;> (try first|rw [decide_eq_true_eq] at hc|rw [decide_eq_false_iff_not] at hc|rw [beq_iff_eq] at hc|rw [beq_eq_false_iff_ne] at hc|rw [bne_iff_ne] at hc|rw [bne_eq_false_iff_eq] at hc) <;> (repeat rw [List.length_map] at hc) <;> (try first|contradiction|(exfalso;omega)|(exfalso;simp [*] at hc;done)))|((first|apply AL_t rfl|apply AL_0 rfl|apply AD_t rfl|apply AD_0 rfl);focus (first|exact o_auto))))
 refine rt1 ?_
 refine rv_per (per_bool ?_)
 rw [verR,Bool.eq_iff_iff];simp;omega
theorem rver_Right (r c:Int):Fn Tryz.prog 120 [vrC r c] (boR (verR r c)):=by
 refine fi Tryz.func120 Tryz.ntmps120 ?_
 (repeat' (first|refine AW_seq ?_|refine AW_block ?_|refine AW_skip ?_|refine AW_exit ?_|refine AW_ret ?_|refine AW_region ?_|refine AW_draw mixed0 ?_|refine AL_nil ?_|refine AD_nil (by kernel_rfl) ?_|refine thenA_n ?_|refine thenA_r ?_|refine thenA_e ?_|refine inB_n ?_|refine inB_r ?_|refine inB_hit ?_|refine inB_miss rfl ?_|(refine AW_cond_per rfl rfl (fun hc=>?_) (fun hc=>?_) <;> (try rw [Bool.not_eq_true'] at hc) <;> (try rw [Bool.not_eq_false'] at hc) <;> (try first|rw [decide_eq_true_eq] at hc|rw [decide_eq_false_iff_not] at hc|rw [beq_iff_eq] at hc|rw [beq_eq_false_iff_ne] at hc|rw [bne_iff_ne] at hc|rw [bne_eq_false_iff_eq] at hc) <;> (repeat rw [List.length_map] at hc) <;> (try first|contradiction|(exfalso;omega)|(exfalso;simp [*] at hc;done)))|((first|apply AL_t rfl|apply AL_0 rfl|apply AD_t rfl|apply AD_0 rfl);focus (first|exact o_auto))))
 refine rt1 ?_
 refine rv_per (per_bool ?_)
 rw [verR,Bool.eq_iff_iff];simp;omega
theorem item_Right (x:It):Fn Tryz.prog 86 [itC x] (boR (itR x)):=by
 refine fi Tryz.func86 Tryz.ntmps86 ?_
 (repeat' (first|refine AW_seq ?_|refine AW_block ?_|refine AW_skip ?_|refine AW_exit ?_|refine AW_ret ?_|refine AW_region ?_|refine AW_draw mixed0 ?_|refine AL_nil ?_|refine AD_nil (by kernel_rfl) ?_|refine thenA_n ?_|refine thenA_r ?_|refine thenA_e ?_|refine inB_n ?_|refine inB_r ?_|refine inB_hit ?_|refine inB_miss rfl ?_|(refine AW_cond_per rfl rfl (fun hc=>?_) (fun hc=>?_) <;> (try rw [Bool.not_eq_true'] at hc) <;> (try rw [Bool.not_eq_false'] at hc) <;> (try first|rw [decide_eq_true_eq] at hc|rw [decide_eq_false_iff_not] at hc|rw [beq_iff_eq] at hc|rw [beq_eq_false_iff_ne] at hc|rw [bne_iff_ne] at hc|rw [bne_eq_false_iff_eq] at hc) <;> (repeat rw [List.length_map] at hc) <;> (try first|contradiction|(exfalso;omega)|(exfalso;simp [*] at hc;done)))|((first|apply AL_t rfl|apply AL_0 rfl|apply AD_t rfl|apply AD_0 rfl);focus (first|exact o_auto|(apply u_g;(focus rfl);(first|apply op_guard_raw rfl rfl rfl rfl rfl (as_guard rfl)|apply op_guard_raw rfl rfl rfl rfl rfl rfl);intro g1 g2;(first|(apply u_k 20;(focus rfl);apply u_call;(case hp=>exact ⟨rfl,rfl,rfl⟩);(case ho=>exact ⟨_,rfl⟩);(case' hf=>apply key_Right);(case hpl=>rfl);(case hg=>(repeat (first|exact GL.nil|(refine GL.cons ?_ ?_;focus (first|exact gl_per (get_gr rfl (by rw [g2];rfl))|exact gl_per (get_gc rfl (by rw [g2];rfl))|exact gl_lst (get_gc rfl (by rw [g2];rfl))|exact gl_bor (get_gc rfl (by rw [g2];rfl))|exact gl_per rfl|exact gl_lst rfl|exact gl_bor rfl)))));all_goals (first|assumption|omega|(simp;done)|(simp;omega)))|(apply u_k 20;(focus rfl);apply u_call;(case hp=>exact ⟨rfl,rfl,rfl⟩);(case ho=>exact ⟨_,rfl⟩);(case' hf=>apply ver_Right);(case hpl=>rfl);(case hg=>(repeat (first|exact GL.nil|(refine GL.cons ?_ ?_;focus (first|exact gl_per (get_gr rfl (by rw [g2];rfl))|exact gl_per (get_gc rfl (by rw [g2];rfl))|exact gl_lst (get_gc rfl (by rw [g2];rfl))|exact gl_bor (get_gc rfl (by rw [g2];rfl))|exact gl_per rfl|exact gl_lst rfl|exact gl_bor rfl)))));all_goals (first|assumption|omega|(simp;done)|(simp;omega)))))|(apply u_g;(focus rfl);(first|apply op_guard rfl rfl rfl rfl rfl (as_guard rfl)|apply op_guard rfl rfl rfl rfl rfl rfl);intro g1 g2;(first|(apply u_k 20;(focus rfl);apply u_call;(case hp=>exact ⟨rfl,rfl,rfl⟩);(case ho=>exact ⟨_,rfl⟩);(case' hf=>apply key_Right);(case hpl=>rfl);(case hg=>(repeat (first|exact GL.nil|(refine GL.cons ?_ ?_;focus (first|exact gl_per (get_gr rfl (by rw [g2];rfl))|exact gl_per (get_gc rfl (by rw [g2];rfl))|exact gl_lst (get_gc rfl (by rw [g2];rfl))|exact gl_bor (get_gc rfl (by rw [g2];rfl))|exact gl_per rfl|exact gl_lst rfl|exact gl_bor rfl)))));all_goals (first|assumption|omega|(simp;done)|(simp;omega)))|(apply u_k 20;(focus rfl);apply u_call;(case hp=>exact ⟨rfl,rfl,rfl⟩);(case ho=>exact ⟨_,rfl⟩);(case' hf=>apply ver_Right);(case hpl=>rfl);(case hg=>(repeat (first|exact GL.nil|(refine GL.cons ?_ ?_;focus (first|exact gl_per (get_gr rfl (by rw [g2];rfl))|exact gl_per (get_gc rfl (by rw [g2];rfl))|exact gl_lst (get_gc rfl (by rw [g2];rfl))|exact gl_bor (get_gc rfl (by rw [g2];rfl))|exact gl_per rfl|exact gl_lst rfl|exact gl_bor rfl)))));all_goals (first|assumption|omega|(simp;done)|(simp;omega)))))|(apply u_k 20;(focus rfl);first|(apply u_call;(case hp=>exact ⟨rfl,rfl,rfl⟩);(case ho=>exact ⟨_,rfl⟩);(case' hf=>apply key_Right);(case hpl=>rfl);(case hg=>(repeat (first|exact GL.nil|(refine GL.cons ?_ ?_;focus (first|exact gl_per rfl|exact gl_lst rfl|exact gl_row rfl rfl rfl|exact gl_bor rfl|exact gl_nil rfl|exact gl_nil' rfl)))));all_goals (first|assumption|omega|(simp;done)|(simp;omega)))|(apply u_call_own;(case hp=>exact ⟨rfl,rfl,rfl⟩);(case ho=>exact ⟨_,rfl⟩);(case' hf=>apply key_Right);(case hg=>(repeat (first|exact GL.nil|(refine GL.cons ?_ ?_;focus (first|exact gl_per rfl|exact gl_lst rfl|exact gl_row rfl rfl rfl|exact gl_bor rfl|exact gl_nil rfl|exact gl_nil' rfl)))));all_goals (first|assumption|omega|(simp;done)|(simp;omega)))|(apply u_call_own2;(case hp=>exact ⟨rfl,rfl,rfl⟩);(case ho=>exact ⟨_,rfl⟩);(case' hf=>apply key_Right);(case hg=>(repeat (first|exact GL.nil|(refine GL.cons ?_ ?_;focus (first|exact gl_per rfl|exact gl_lst rfl|exact gl_row rfl rfl rfl|exact gl_bor rfl|exact gl_nil rfl|exact gl_nil' rfl)))));all_goals (first|assumption|omega|(simp;done)|(simp;omega))))|(apply u_k 20;(focus rfl);first|(apply u_call;(case hp=>exact ⟨rfl,rfl,rfl⟩);(case ho=>exact ⟨_,rfl⟩);(case' hf=>apply ver_Right);(case hpl=>rfl);(case hg=>(repeat (first|exact GL.nil|(refine GL.cons ?_ ?_;focus (first|exact gl_per rfl|exact gl_lst rfl|exact gl_row rfl rfl rfl|exact gl_bor rfl|exact gl_nil rfl|exact gl_nil' rfl)))));all_goals (first|assumption|omega|(simp;done)|(simp;omega)))|(apply u_call_own;(case hp=>exact ⟨rfl,rfl,rfl⟩);(case ho=>exact ⟨_,rfl⟩);(case' hf=>apply ver_Right);(case hg=>(repeat (first|exact GL.nil|(refine GL.cons ?_ ?_;focus (first|exact gl_per rfl|exact gl_lst rfl|exact gl_row rfl rfl rfl|exact gl_bor rfl|exact gl_nil rfl|exact gl_nil' rfl)))));all_goals (first|assumption|omega|(simp;done)|(simp;omega)))|(apply u_call_own2;(case hp=>exact ⟨rfl,rfl,rfl⟩);(case ho=>exact ⟨_,rfl⟩);(case' hf=>apply ver_Right);(case hg=>(repeat (first|exact GL.nil|(refine GL.cons ?_ ?_;focus (first|exact gl_per rfl|exact gl_lst rfl|exact gl_row rfl rfl rfl|exact gl_bor rfl|exact gl_nil rfl|exact gl_nil' rfl)))));all_goals (first|assumption|omega|(simp;done)|(simp;omega))))))))
 all_goals refine rt1 ?_
 all_goals refine rv_per (per_bool ?_)
 all_goals have hs:x.body.toList = [] ↔ x.body.size = 0:=sz_nil x.body
 all_goals have hn:=nil_toList
 · grind [itR]
 · grind [itR]
 · grind [itR]
theorem ritem_Right (x:It):Fn Tryz.prog 77 [itC x] (boR (itR x)):=by
 refine fi Tryz.func77 Tryz.ntmps77 ?_
 (repeat' (first|refine AW_seq ?_|refine AW_block ?_|refine AW_skip ?_|refine AW_exit ?_|refine AW_ret ?_|refine AW_region ?_|refine AW_draw mixed0 ?_|refine AL_nil ?_|refine AD_nil (by kernel_rfl) ?_|refine thenA_n ?_|refine thenA_r ?_|refine thenA_e ?_|refine inB_n ?_|refine inB_r ?_|refine inB_hit ?_|refine inB_miss rfl ?_|(refine AW_cond_per rfl rfl (fun hc=>?_) (fun hc=>?_) <;> (try rw [Bool.not_eq_true'] at hc) <;> (try rw [Bool.not_eq_false'] at hc) <;> (try first|rw [decide_eq_true_eq] at hc|rw [decide_eq_false_iff_not] at hc|rw [beq_iff_eq] at hc|rw [beq_eq_false_iff_ne] at hc|rw [bne_iff_ne] at hc|rw [bne_eq_false_iff_eq] at hc) <;> (repeat rw [List.length_map] at hc) <;> (try first|contradiction|(exfalso;omega)|(exfalso;simp [*] at hc;done)))|((first|apply AL_t rfl|apply AL_0 rfl|apply AD_t rfl|apply AD_0 rfl);focus (first|exact o_auto|(apply u_g;(focus rfl);(first|apply op_guard_raw rfl rfl rfl rfl rfl (as_guard rfl)|apply op_guard_raw rfl rfl rfl rfl rfl rfl);intro g1 g2;(first|(apply u_k 20;(focus rfl);apply u_call;(case hp=>exact ⟨rfl,rfl,rfl⟩);(case ho=>exact ⟨_,rfl⟩);(case' hf=>apply rkey_Right);(case hpl=>rfl);(case hg=>(repeat (first|exact GL.nil|(refine GL.cons ?_ ?_;focus (first|exact gl_per (get_gr rfl (by rw [g2];rfl))|exact gl_per (get_gc rfl (by rw [g2];rfl))|exact gl_lst (get_gc rfl (by rw [g2];rfl))|exact gl_bor (get_gc rfl (by rw [g2];rfl))|exact gl_per rfl|exact gl_lst rfl|exact gl_bor rfl)))));all_goals (first|assumption|omega|(simp;done)|(simp;omega)))|(apply u_k 20;(focus rfl);apply u_call;(case hp=>exact ⟨rfl,rfl,rfl⟩);(case ho=>exact ⟨_,rfl⟩);(case' hf=>apply rver_Right);(case hpl=>rfl);(case hg=>(repeat (first|exact GL.nil|(refine GL.cons ?_ ?_;focus (first|exact gl_per (get_gr rfl (by rw [g2];rfl))|exact gl_per (get_gc rfl (by rw [g2];rfl))|exact gl_lst (get_gc rfl (by rw [g2];rfl))|exact gl_bor (get_gc rfl (by rw [g2];rfl))|exact gl_per rfl|exact gl_lst rfl|exact gl_bor rfl)))));all_goals (first|assumption|omega|(simp;done)|(simp;omega)))))|(apply u_g;(focus rfl);(first|apply op_guard rfl rfl rfl rfl rfl (as_guard rfl)|apply op_guard rfl rfl rfl rfl rfl rfl);intro g1 g2;(first|(apply u_k 20;(focus rfl);apply u_call;(case hp=>exact ⟨rfl,rfl,rfl⟩);(case ho=>exact ⟨_,rfl⟩);(case' hf=>apply rkey_Right);(case hpl=>rfl);(case hg=>(repeat (first|exact GL.nil|(refine GL.cons ?_ ?_;focus (first|exact gl_per (get_gr rfl (by rw [g2];rfl))|exact gl_per (get_gc rfl (by rw [g2];rfl))|exact gl_lst (get_gc rfl (by rw [g2];rfl))|exact gl_bor (get_gc rfl (by rw [g2];rfl))|exact gl_per rfl|exact gl_lst rfl|exact gl_bor rfl)))));all_goals (first|assumption|omega|(simp;done)|(simp;omega)))|(apply u_k 20;(focus rfl);apply u_call;(case hp=>exact ⟨rfl,rfl,rfl⟩);(case ho=>exact ⟨_,rfl⟩);(case' hf=>apply rver_Right);(case hpl=>rfl);(case hg=>(repeat (first|exact GL.nil|(refine GL.cons ?_ ?_;focus (first|exact gl_per (get_gr rfl (by rw [g2];rfl))|exact gl_per (get_gc rfl (by rw [g2];rfl))|exact gl_lst (get_gc rfl (by rw [g2];rfl))|exact gl_bor (get_gc rfl (by rw [g2];rfl))|exact gl_per rfl|exact gl_lst rfl|exact gl_bor rfl)))));all_goals (first|assumption|omega|(simp;done)|(simp;omega)))))|(apply u_k 20;(focus rfl);first|(apply u_call;(case hp=>exact ⟨rfl,rfl,rfl⟩);(case ho=>exact ⟨_,rfl⟩);(case' hf=>apply rkey_Right);(case hpl=>rfl);(case hg=>(repeat (first|exact GL.nil|(refine GL.cons ?_ ?_;focus (first|exact gl_per rfl|exact gl_lst rfl|exact gl_row rfl rfl rfl|exact gl_bor rfl|exact gl_nil rfl|exact gl_nil' rfl)))));all_goals (first|assumption|omega|(simp;done)|(simp;omega)))|(apply u_call_own;(case hp=>exact ⟨rfl,rfl,rfl⟩);(case ho=>exact ⟨_,rfl⟩);(case' hf=>apply rkey_Right);(case hg=>(repeat (first|exact GL.nil|(refine GL.cons ?_ ?_;focus (first|exact gl_per rfl|exact gl_lst rfl|exact gl_row rfl rfl rfl|exact gl_bor rfl|exact gl_nil rfl|exact gl_nil' rfl)))));all_goals (first|assumption|omega|(simp;done)|(simp;omega)))|(apply u_call_own2;(case hp=>exact ⟨rfl,rfl,rfl⟩);(case ho=>exact ⟨_,rfl⟩);(case' hf=>apply rkey_Right);(case hg=>(repeat (first|exact GL.nil|(refine GL.cons ?_ ?_;focus (first|exact gl_per rfl|exact gl_lst rfl|exact gl_row rfl rfl rfl|exact gl_bor rfl|exact gl_nil rfl|exact gl_nil' rfl)))));all_goals (first|assumption|omega|(simp;done)|(simp;omega))))|(apply u_k 20;(focus rfl);first|(apply u_call;(case hp=>exact ⟨rfl,rfl,rfl⟩);(case ho=>exact ⟨_,rfl⟩);(case' hf=>apply rver_Right);(case hpl=>rfl);(case hg=>(repeat (first|exact GL.nil|(refine GL.cons ?_ ?_;focus (first|exact gl_per rfl|exact gl_lst rfl|exact gl_row rfl rfl rfl|exact gl_bor rfl|exact gl_nil rfl|exact gl_nil' rfl)))));all_goals (first|assumption|omega|(simp;done)|(simp;omega)))|(apply u_call_own;(case hp=>exact ⟨rfl,rfl,rfl⟩);(case ho=>exact ⟨_,rfl⟩);(case' hf=>apply rver_Right);(case hg=>(repeat (first|exact GL.nil|(refine GL.cons ?_ ?_;focus (first|exact gl_per rfl|exact gl_lst rfl|exact gl_row rfl rfl rfl|exact gl_bor rfl|exact gl_nil rfl|exact gl_nil' rfl)))));all_goals (first|assumption|omega|(simp;done)|(simp;omega)))|(apply u_call_own2;(case hp=>exact ⟨rfl,rfl,rfl⟩);(case ho=>exact ⟨_,rfl⟩);(case' hf=>apply rver_Right);(case hg=>(repeat (first|exact GL.nil|(refine GL.cons ?_ ?_;focus (first|exact gl_per rfl|exact gl_lst rfl|exact gl_row rfl rfl rfl|exact gl_bor rfl|exact gl_nil rfl|exact gl_nil' rfl)))));all_goals (first|assumption|omega|(simp;done)|(simp;omega))))))))
 all_goals refine rt1 ?_
 all_goals refine rv_per (per_bool ?_)
 all_goals grind [itR]
end Go.Proofs.YthlffkjpklpkfaaGreat
