/- Texts joined: Byt Key Varint VarintRef Var It Base. -/
import Derived.Test.YtembiemaiacdfaaGreatJ07
import Derived.Test.YtembiemaiacdfaaGreatJ06
import Derived.Test.YtembiemaiacdfaaGreatJ05
import Derived.Test.YtembiemaiacdfaaGreatRows
import Derived.Test.YtembiemaiacdfaaGreatJ01
import Derived.Outline
set_option maxRecDepth 10000
set_option maxHeartbeats 8000000
namespace Go.Proofs.YtembiemaiacdfaaGreat
open Go.RowKit
section
end
section
end

def numB (n:Nat):List UInt8:=if n < 128 then [UInt8.ofNat n] else UInt8.ofNat (128 + n % 128) :: numB (n / 128)
theorem numB_lt {n:Nat} (h:n < 128):numB n = [UInt8.ofNat n]:=by rw [numB,if_pos h]
theorem numB_ge {n:Nat} (h:¬ n < 128):numB n = UInt8.ofNat (128 + n % 128) :: numB (n / 128):=by rw [numB,if_neg h]
theorem numB_len (k:Nat):∀ n,n < 128 ^ (k + 1) → (numB n).length ≤ k + 1:=by
 induction k with
 | zero=>intro n hn;rw [numB_lt (by simpa using hn)];simp
 | succ k ih=>
   intro n hn
   by_cases h:n < 128
   · rw [numB_lt h];simp
   · rw [numB_ge h]
     have:=ih (n / 128) (by rw [Nat.div_lt_iff_lt_mul (by decide)];rw [← Nat.pow_succ];exact hn)
     simp;omega
theorem numB_len9 (n:Nat) (h:n ≤ 9223372036854775807):(numB n).length ≤ 9:=numB_len 8 n (by omega)
theorem tiB:TI Tryz.prog 43 5 1 1:=TI.mk' Tryz.underlying43 (by kernel_rfl)
theorem zB:(Tryz.prog.info? 5).bind (·.zero) = some (.int .u8 0):=by kernel_rfl

theorem byteLow (m:Nat) (h:m < 128):encB (UInt8.ofNat m) = [.int .u8 (m:Int)]:=by
 unfold encB;rw [UInt8.toNat_ofNat'];congr 2;omega
theorem byteHigh (m:Nat):encB (UInt8.ofNat (128 + m % 128)) = [.int .u8 ((m:Int) % 128 + 128)]:=by
 unfold encB;rw [UInt8.toNat_ofNat'];congr 2;omega

theorem one_any (n0:Int) (v:Value) (l:List UInt8) (wB w:World) (h0:0 ≤ n0) (hn:n0 ≤ 9223372036854775807) (hl:l.length ≤ 70368744177664) (hv:Own 5 1 encB wB w v l) :
   Calls Tryz.prog 248 #[v,.int .i64 n0] w (RetOwn 5 1 encB wB (l ++ numB n0.toNat)):=by
 obtain ⟨n,rfl⟩:=Int.eq_ofNat_of_zero_le h0
 have hlen9:=numB_len9 n (by omega)
 have e0:((n:Int)).toNat = n:=by omega
 rw [e0]
 clear e0
 go_enter Tryz.func248,Tryz.ntmps248
 go_wp2
 go_loopw [0,1] (fun v' i wr=>∃ (m:Nat) (done:List UInt8),i = .int .i64 m ∧ m ≤ n ∧ Own 5 1 encB wB wr v' (l ++ done) ∧ done.length ≤ 9 ∧ Hid (done ++ numB m = numB n)) (fun _ i _=>(intOf i).toNat)
 case atStart=>exact ⟨n,[],rfl,Nat.le_refl _,by simpa using hv,by simp,Lib.hid rfl⟩
 case round=>
   obtain ⟨m,done,rfl,hm,hown,hd,HD⟩:=hrel
   by_cases hlt:m < 128
   · go_wp2_with (at_builtin;refine wpList_app rfl _ _ 43 rfl tiB encB_ok wB _ [UInt8.ofNat m] _ _ rfl rfl (hown.alloc _) (Sl.new1 (enc:=encB) encB_ok.len _ _ _ _ (byteLow m hlt)) ?_ ?_ ?_)
     · (first|omega|(simp;omega)|(unfold maxLen;omega)|(unfold maxLen;simp;omega))
     · (first|omega|(simp;omega)|(unfold maxLen;omega)|(unfold maxLen;simp;omega))
     · intro v' w2 r HR hown2 _ _
       go_wp2
       go_ret
       have h1:=HD.out
       rw [numB_lt hlt] at h1
       have e:l ++ numB n = r:=by rw [← h1];simp [HR.out]
       rw [e]
       exact ⟨_,rfl,hown2⟩
   · have hg:128 ≤ m:=by omega
     go_wp2_with (at_builtin;refine wpList_app rfl _ _ 43 rfl tiB encB_ok wB _ [UInt8.ofNat (128 + m % 128)] _ _ rfl rfl (hown.alloc _) (Sl.new1 (enc:=encB) encB_ok.len _ _ _ _ (byteHigh m)) ?_ ?_ ?_)
     · (first|omega|(simp;omega)|(unfold maxLen;omega)|(unfold maxLen;simp;omega))
     · (first|omega|(simp;omega)|(unfold maxLen;omega)|(unfold maxLen;simp;omega))
     · intro v' w2 r HR hown2 _ _
       have h1:=HD.out
       rw [numB_ge hlt] at h1
       have h2:(done ++ [UInt8.ofNat (128 + m % 128)]).length ≤ 9:=by
         have:=congrArg List.length h1
         simp at this ⊢;omega
       clear hown
       go_wp2
       go_roundw
       case rel=>exact ⟨m / 128,done ++ [UInt8.ofNat (128 + m % 128)],by go_num,by omega,by rw [show l ++ (done ++ [UInt8.ofNat (128 + m % 128)]) = r by simp [HR.out]];exact hown2,h2,Lib.hid (by simpa using h1)⟩
       case measure=>simp [intOf];omega

def numI (n:Int):List UInt8:=numB n.toNat
def okNum (n:Int):Prop:=0 ≤ n ∧ n ≤ 281474976710656
theorem numI_len (n:Int) (h:n ≤ 9223372036854775807):(numI n).length ≤ 9:=numB_len9 _ (by omega)
theorem nums_len (ns:List Int) (h:∀ n ∈ ns,okNum n):(ns.flatMap numI).length ≤ 9 * ns.length:=by
 induction ns with
 | nil=>simp
 | cons n ns ih=>
   have h1:=numI_len n (by have:=(h n (by simp)).2;omega)
   have h2:=ih (fun m hm=>h m (by simp [hm]))
   simp only [List.flatMap_cons,List.length_append,List.length_cons];omega

theorem put_ok (v vl:Value) (l:List UInt8) (ns:List Int) (w:World) (hv:Bs w v l) (hl:Sl 1 encI w vl ns) (hb:l.length + 9 * ns.length ≤ 70368744177664)
   (hok:∀ n ∈ ns,okNum n):Calls Tryz.prog 249 #[v,vl] w (RetOwn2 5 1 encB w (l ++ ns.flatMap numI) (.int .i64 0)):=by
 obtain ⟨a,c,b,o,rfl,h1,h2,h3,h4⟩:=hl.openI
 have h5:=len_le h1 h2
 clear h1 h2 hl
 go_enter Tryz.func249,Tryz.ntmps249
 go_wp2
 go_loop [13] (fun i=>∃ k:Nat,k ≤ ns.length ∧ i = .int .i64 k) (fun i=>ns.length - (intOf i).toNat)
 case atStart=>exact ⟨0,Nat.zero_le _,rfl⟩
 case round=>
   obtain ⟨k,hk,rfl⟩:=hrel
   by_cases hlt:k < ns.length
   · obtain rfl:=h3 (by omega)
     have hc:=h4 k hlt
     obtain ⟨g1,g2⟩:=hok ns[k] (by simp)
     clear h3 h4 hok
     go_wp2
     go_round
     case rel=>exact ⟨k + 1,by omega,by go_num⟩
     case measure=>simp [intOf];omega
   · go_wp2_with (at_builtin;refine wpList_app rfl _ _ 43 rfl tiB encB_ok w [] l _ _ rfl rfl (Own.empty (Ext.refl _)) (hv.ext ((Ext.refl _).alloc _)) ?_ ?_ ?_)
     · (first|omega|(simp;omega)|(unfold maxLen;omega)|(unfold maxLen;simp;omega))
     · (first|omega|(simp;omega)|(unfold maxLen;omega)|(unfold maxLen;simp;omega))
     · intro v1 w1 r HR hown _ _
       have HR':Hid (r = l):=Lib.hid (by simpa using HR.out)
       clear HR
       go_wp2
       go_loopw [8,29] (fun v i wr=>∃ k:Nat,k ≤ ns.length ∧ i = .int .i64 k ∧ Own 5 1 encB w wr v (l ++ (ns.take k).flatMap numI)) (fun _ i _=>ns.length - (intOf i).toNat)
       case atStart=>exact ⟨0,Nat.zero_le _,rfl,by rw [← HR'.out];simpa using hown⟩
       case round=>
         obtain ⟨j,hj,rfl,hown⟩:=hrel
         by_cases hjt:j < ns.length
         · obtain rfl:=h3 (by omega)
           have hc:=hown.ext.cell (h4 j hjt)
           obtain ⟨g1,g2⟩:=hok ns[j] (by simp)
           have hs:=Lib.hid (take_snoc ns j hjt)
           have hlen:=nums_len (ns.take j) (fun n hn=>hok n (List.mem_of_mem_take hn))
           have hlj:(ns.take j).length ≤ j:=List.length_take_le _ _
           have hlen2:(l ++ (ns.take j).flatMap numI).length ≤ 70368744177664:=by rw [List.length_append];omega
           clear h3 h4 hlen hlj
           go_wp2_with fail
           refine (one_any _ _ _ w _ g1 (by omega) hlen2 hown).mono ?_
           rintro e w2 ⟨v2,rfl,hown2⟩
           have HO:=Lib.hid hown2
           clear hown hown2
           go_wp2
           go_roundw
           case rel=>exact ⟨j + 1,by omega,by go_num,by rw [hs.out,List.flatMap_append,← List.append_assoc];simpa [numI] using HO.out⟩
           case measure=>simp [intOf];omega
         · have HT:=Lib.hid (show ns.take j = ns from List.take_of_length_le (by omega))
           go_wp2
           go_ret2
           rw [HT.out] at hown
           exact ⟨_,rfl,hown⟩

def textB (s:ByteArray):List UInt8:=numB s.size ++ s.data.toList

theorem text_any (v vl:Value) (l:List UInt8) (ss:List ByteArray) (w:World) (hv:Bs w v l) (hl:Sl 1 encS w vl ss) (hb:l.length + (ss.flatMap textB).length ≤ 7036874417766) :
   Calls Tryz.prog 210 #[v,vl] w (RetOwn 5 1 encB w (l ++ ss.flatMap textB)):=by
 obtain ⟨a,c,b,o,rfl,h1,h2,h3,h4⟩:=hl.openS
 have h5:=len_le h1 h2
 clear h1 h2 hl
 go_enter Tryz.func210,Tryz.ntmps210
 go_wp2_with (at_builtin;refine wpList_app rfl _ _ 43 rfl tiB encB_ok w [] l _ _ rfl rfl (Own.empty (Ext.refl _)) (hv.ext ((Ext.refl _).alloc _)) ?_ ?_ ?_)
 · (first|omega|(simp;omega)|(unfold maxLen;omega)|(unfold maxLen;simp;omega))
 · (first|omega|(simp;omega)|(unfold maxLen;omega)|(unfold maxLen;simp;omega))
 · intro v1 w1 r HR hown _ _
   have HR':Hid (r = l):=Lib.hid (by simpa using HR.out)
   clear HR
   go_wp2
   go_loopw [5,13] (fun v i wr=>∃ k:Nat,k ≤ ss.length ∧ i = .int .i64 k ∧ Own 5 1 encB w wr v (l ++ (ss.take k).flatMap textB)) (fun _ i _=>ss.length - (intOf i).toNat)
   case atStart=>exact ⟨0,Nat.zero_le _,rfl,by rw [← HR'.out];simpa using hown⟩
   case round=>
     obtain ⟨j,hj,rfl,hown⟩:=hrel
     by_cases hjt:j < ss.length
     · obtain rfl:=h3 (by omega)
       have hc:=hown.ext.cell (h4 j hjt)
       have hs:=Lib.hid (take_snoc ss j hjt)
       have hlen:(l ++ (ss.take j).flatMap textB).length + (textB ss[j]).length ≤ 7036874417766:=by
         have h:(ss.take (j + 1) ++ ss.drop (j + 1)) = ss:=List.take_append_drop _ _
         rw [← h,hs.out,List.flatMap_append,List.flatMap_append] at hb
         simp at hb ⊢;omega
       have hsz:(textB ss[j]).length = (numB ss[j].size).length + ss[j].size:=by simp [textB]
       generalize ss[j] = s at *
       have HS:=Lib.hid hsz
       have hsz1:(l ++ (ss.take j).flatMap textB).length + ((numB s.size).length + s.size) ≤ 7036874417766:=by omega
       clear h3 h4 hlen hsz hv hb
       generalize hx:l ++ (ss.take j).flatMap textB = L at *
       have HX:=Lib.hid hx
       clear hx
       go_wp2_with fail
       refine (one_any _ _ _ w _ (by omega) (by omega) (by omega) hown).mono ?_
       rintro e w2 ⟨v2,rfl,hown2⟩
       have ht:Hid (((s.size:Int)).toNat = s.size):=Lib.hid (by omega)
       rw [ht.out] at hown2
       clear hown hc
       go_wp2_with (at_builtin;refine wpList_apps rfl _ _ 43 9 rfl tiB zB Tryz.underlying9 w _ s _ rfl rfl hown2 ?_ ?_)
       · (first|omega|(simp;omega)|(unfold maxLen;omega)|(unfold maxLen;simp;omega))
       · intro v3 w3 r HR hown3 _
         clear hown2
         go_wp2
         go_roundw
         case rel=>exact ⟨j + 1,by omega,by go_num,by rw [hs.out,List.flatMap_append,← List.append_assoc,HX.out,show L ++ List.flatMap textB [s] = r by simp [HR.out,textB]];exact hown3⟩
         case measure=>simp [intOf];omega
     · have HT:=Lib.hid (show ss.take j = ss from List.take_of_length_le (by omega))
       go_wp2
       go_ret
       rw [HT.out] at hown
       exact ⟨_,rfl,hown⟩
abbrev ownB (l:List UInt8):Ret:=.own 5 1 (l.map byteP)
theorem varint_Put (l:List UInt8) (ns:List Int) (hb:l.length + 9 * ns.length ≤ 1000000000000) (hok:∀ n ∈ ns,okNum n) :
   Fn Tryz.prog 249 [bytesB l,intsB ns] (.tup2 (ownB (l ++ ns.flatMap numI)) (.per (rawP (.int .i64 0)))):=by
 refine ⟨⟨_,Tryz.func249,by kernel_rfl,by kernel_rfl⟩,fun N0 w vs _ ha=>?_⟩
 obtain ⟨v,u,rfl,h1,h2⟩:=args2 ha
 refine Calls.mono (put_ok v u l ns w (lst_bs h1) (lst_sl h2) (by omega) hok) ?_
 rintro e w' ⟨v',rfl,h⟩
 exact ⟨_,rfl,h.ext,_,_,rfl,sl_own encB_ok h,rfl⟩
theorem varint_Text (l:List UInt8) (ss:List ByteArray) (hb:l.length + (ss.flatMap textB).length ≤ 1000000000000) :
   Fn Tryz.prog 210 [bytesB l,strsB ss] (ownB (l ++ ss.flatMap textB)):=by
 refine ⟨⟨_,Tryz.func210,by kernel_rfl,by kernel_rfl⟩,fun N0 w vs _ ha=>?_⟩
 obtain ⟨v,u,rfl,h1,h2⟩:=args2 ha
 refine Calls.mono (text_any v u l ss w (lst_bs h1) (lst_sl h2) (by omega)) ?_
 rintro e w' ⟨v',rfl,h⟩
 exact ⟨_,rfl,h.ext,sl_own encB_ok h⟩
structure It where
 key:ByteArray
 rep:Int
 cnt:Int
 rank:Int
 prio:Int
 dead:Bool
 body:ByteArray
deriving DecidableEq
def encIt (x:It):List Value:=[.string x.key,.int .i64 x.rep,.int .i64 x.cnt,.int .i64 x.rank,.int .i64 x.prio,.bool x.dead,.string x.body]
def keyR (s:ByteArray):Bool:=decide (1 ≤ s.size ∧ s.size ≤ 16)
def verR (r c:Int):Bool:=decide (1 ≤ r ∧ r ≤ 16 ∧ 1 ≤ c ∧ c ≤ 1099511627776)
def itR (x:It):Bool:=keyR x.key && verR x.rep x.cnt && decide (1 ≤ x.rank ∧ x.rank ≤ 1099511627776 ∧ 0 ≤ x.prio ∧ x.prio ≤ 255 ∧ x.body.size ≤ 64 ∧ (x.dead = true → x.body.size = 0))
theorem encIt_ok:Enc 7 encIt:=⟨by decide,fun _=>rfl,fun x u hu=>by
 simp only [encIt,List.mem_cons,List.not_mem_nil,or_false] at hu
 rcases hu with rfl|rfl|rfl|rfl|rfl|rfl|rfl <;> rfl⟩
abbrev itP (x:It):List PV:=[rawP (.string x.key),rawP (.int .i64 x.rep),rawP (.int .i64 x.cnt),rawP (.int .i64 x.rank),rawP (.int .i64 x.prio),rawP (.bool x.dead),rawP (.string x.body)]
abbrev itC (x:It):Cnt:=.per (aggP (itP x))
abbrev vrP (r c:Int):List PV:=[rawP (.int .i64 r),rawP (.int .i64 c)]
abbrev vrC (r c:Int):Cnt:=.per (aggP (vrP r c))
theorem per_bool {a b:Bool} (h:a = b):Cnt.per (rawP (.bool a)) = .per (rawP (.bool b)):=by rw [h]

theorem nil_toList:(⟨#[]⟩:ByteArray).toList = []:=by rw [str_toList]
theorem sz_nil (s:ByteArray):s.toList = [] ↔ s.size = 0:=by
 rw [str_toList,← List.length_eq_zero_iff,str_len]
theorem key_Right (s:ByteArray):Fn Tryz.prog 79 [sC s] (boR (keyR s)):=by
 refine fi Tryz.func79 Tryz.ntmps79 ?_
 (repeat' (first|refine AW_seq ?_|refine AW_block ?_|refine AW_skip ?_|refine AW_exit ?_|refine AW_ret ?_|refine AW_region ?_|refine AW_draw mixed0 ?_|refine AL_nil ?_|refine AD_nil (by kernel_rfl) ?_|refine thenA_n ?_|refine thenA_r ?_|refine thenA_e ?_|refine inB_n ?_|refine inB_r ?_|refine inB_hit ?_|refine inB_miss rfl ?_|(refine AW_cond_per rfl rfl (fun hc=>?_) (fun hc=>?_) <;> (try rw [Bool.not_eq_true'] at hc) <;> (try rw [Bool.not_eq_false'] at hc) <;> (try first|rw [decide_eq_true_eq] at hc|rw [decide_eq_false_iff_not] at hc|rw [beq_iff_eq] at hc|rw [beq_eq_false_iff_ne] at hc|rw [bne_iff_ne] at hc|rw [bne_eq_false_iff_eq] at hc) <;> (repeat rw [List.length_map] at hc) <;> (try first|contradiction|(exfalso;omega)|(exfalso;simp [*] at hc;done)))|((first|apply AL_t rfl|apply AL_0 rfl|apply AD_t rfl|apply AD_0 rfl);focus (first|exact o_auto))))
 refine rt1 ?_
 refine rv_per (per_bool ?_)
 rw [keyR,Bool.eq_iff_iff];simp;omega
theorem rkey_Right (s:ByteArray):Fn Tryz.prog 110 [sC s] (boR (keyR s)):=by
 refine fi Tryz.func110 Tryz.ntmps110 ?_
 (repeat' (first|refine AW_seq ?_|refine AW_block ?_|refine AW_skip ?_|refine AW_exit ?_|refine AW_ret ?_|refine AW_region ?_|refine AW_draw mixed0 ?_|refine AL_nil ?_|refine AD_nil (by kernel_rfl) ?_|refine thenA_n ?_|refine thenA_r ?_|refine thenA_e ?_|refine inB_n ?_|refine inB_r ?_|refine inB_hit ?_|refine inB_miss rfl ?_|(refine AW_cond_per rfl rfl (fun hc=>?_) (fun hc=>?_) <;> (try rw [Bool.not_eq_true'] at hc) <;> (try rw [Bool.not_eq_false'] at hc) <;> (try first|rw [decide_eq_true_eq] at hc|rw [decide_eq_false_iff_not] at hc|rw [beq_iff_eq] at hc|rw [beq_eq_false_iff_ne] at hc|rw [bne_iff_ne] at hc|rw [bne_eq_false_iff_eq] at hc) <;> (repeat rw [List.length_map] at hc) <;> (try first|contradiction|(exfalso;omega)|(exfalso;simp [*] at hc;done)))|((first|apply AL_t rfl|apply AL_0 rfl|apply AD_t rfl|apply AD_0 rfl);focus (first|exact o_auto))))
 refine rt1 ?_
 refine rv_per (per_bool ?_)
 rw [keyR,Bool.eq_iff_iff];simp;omega
theorem ver_Right (r c:Int):Fn Tryz.prog 151 [vrC r c] (boR (verR r c)):=by
 refine fi Tryz.func151 Tryz.ntmps151 ?_
 (repeat' (first|refine AW_seq ?_|refine AW_block ?_|refine AW_skip ?_|refine AW_exit ?_|refine AW_ret ?_|refine AW_region ?_|refine AW_draw mixed0 ?_|refine AL_nil ?_|refine AD_nil (by kernel_rfl) ?_|refine thenA_n ?_|refine thenA_r ?_|refine thenA_e ?_|refine inB_n ?_|refine inB_r ?_|refine inB_hit ?_|refine inB_miss rfl ?_|(refine AW_cond_per rfl rfl (fun hc=>?_) (fun hc=>?_) <;> (try rw [Bool.not_eq_true'] at hc) <;> (try rw [Bool.not_eq_false'] at hc) <;> (try first|rw [decide_eq_true_eq] at hc|rw [decide_eq_false_iff_not] at hc|rw [beq_iff_eq] at hc|rw [beq_eq_false_iff_ne] at hc|rw [bne_iff_ne] at hc|rw [bne_eq_false_iff_eq] at hc) <;> (repeat rw [List.length_map] at hc) <;> (try first|contradiction|(exfalso;omega)|(exfalso;simp [*] at hc;done)))|((first|apply AL_t rfl|apply AL_0 rfl|apply AD_t rfl|apply AD_0 rfl);focus (first|exact o_auto))))
 refine rt1 ?_
 refine rv_per (per_bool ?_)
 rw [verR,Bool.eq_iff_iff];simp;omega
theorem rver_Right (r c:Int):Fn Tryz.prog 111 [vrC r c] (boR (verR r c)):=by
 refine fi Tryz.func111 Tryz.ntmps111 ?_
 (repeat' (first|refine AW_seq ?_|refine AW_block ?_|refine AW_skip ?_|refine AW_exit ?_|refine AW_ret ?_|refine AW_region ?_|refine AW_draw mixed0 ?_|refine AL_nil ?_|refine AD_nil (by kernel_rfl) ?_|refine thenA_n ?_|refine thenA_r ?_|refine thenA_e ?_|refine inB_n ?_|refine inB_r ?_|refine inB_hit ?_|refine inB_miss rfl ?_|(refine AW_cond_per rfl rfl (fun hc=>?_) (fun hc=>?_) <;> (try rw [Bool.not_eq_true'] at hc) <;> (try rw [Bool.not_eq_false'] at hc) <;> (try first|rw [decide_eq_true_eq] at hc|rw [decide_eq_false_iff_not] at hc|rw [beq_iff_eq] at hc|rw [beq_eq_false_iff_ne] at hc|rw [bne_iff_ne] at hc|rw [bne_eq_false_iff_eq] at hc) <;> (repeat rw [List.length_map] at hc) <;> (try first|contradiction|(exfalso;omega)|(exfalso;simp [*] at hc;done)))|((first|apply AL_t rfl|apply AL_0 rfl|apply AD_t rfl|apply AD_0 rfl);focus (first|exact o_auto))))
 refine rt1 ?_
 refine rv_per (per_bool ?_)
 rw [verR,Bool.eq_iff_iff];simp;omega
theorem item_Right (x:It):Fn Tryz.prog 119 [itC x] (boR (itR x)):=by
 refine fi Tryz.func119 Tryz.ntmps119 ?_
 (repeat' (first|refine AW_seq ?_|refine AW_block ?_|refine AW_skip ?_|refine AW_exit ?_|refine AW_ret ?_|refine AW_region ?_|refine AW_draw mixed0 ?_|refine AL_nil ?_|refine AD_nil (by kernel_rfl) ?_|refine thenA_n ?_|refine thenA_r ?_|refine thenA_e ?_|refine inB_n ?_|refine inB_r ?_|refine inB_hit ?_|refine inB_miss rfl ?_|(refine AW_cond_per rfl rfl (fun hc=>?_) (fun hc=>?_) <;> (try rw [Bool.not_eq_true'] at hc) <;> (try rw [Bool.not_eq_false'] at hc) <;> (try first|rw [decide_eq_true_eq] at hc|rw [decide_eq_false_iff_not] at hc|rw [beq_iff_eq] at hc|rw [beq_eq_false_iff_ne] at hc|rw [bne_iff_ne] at hc|rw [bne_eq_false_iff_eq] at hc) <;> (repeat rw [List.length_map] at hc) <;> (try first|contradiction|(exfalso;omega)|(exfalso;simp [*] at hc;done)))|((first|apply AL_t rfl|apply AL_0 rfl|apply AD_t rfl|apply AD_0 rfl);focus (first|exact o_auto|(apply u_g;(focus rfl);(first|apply op_guard_raw rfl rfl rfl rfl rfl (as_guard rfl)|apply op_guard_raw rfl rfl rfl rfl rfl rfl);intro g1 g2;(first|(apply u_k 20;(focus rfl);apply u_call;(case hp=>exact ⟨rfl,rfl,rfl⟩);(case ho=>exact ⟨_,rfl⟩);(case' hf=>apply key_Right);(case hpl=>rfl);(case hg=>(repeat (first|exact GL.nil|(refine GL.cons ?_ ?_;focus (first|exact gl_per (get_gr rfl (by rw [g2];rfl))|exact gl_per (get_gc rfl (by rw [g2];rfl))|exact gl_lst (get_gc rfl (by rw [g2];rfl))|exact gl_bor (get_gc rfl (by rw [g2];rfl))|exact gl_per rfl|exact gl_lst rfl|exact gl_bor rfl)))));all_goals (first|assumption|omega|(simp;done)|(simp;omega)))|(apply u_k 20;(focus rfl);apply u_call;(case hp=>exact ⟨rfl,rfl,rfl⟩);(case ho=>exact ⟨_,rfl⟩);(case' hf=>apply ver_Right);(case hpl=>rfl);(case hg=>(repeat (first|exact GL.nil|(refine GL.cons ?_ ?_;focus (first|exact gl_per (get_gr rfl (by rw [g2];rfl))|exact gl_per (get_gc rfl (by rw [g2];rfl))|exact gl_lst (get_gc rfl (by rw [g2];rfl))|exact gl_bor (get_gc rfl (by rw [g2];rfl))|exact gl_per rfl|exact gl_lst rfl|exact gl_bor rfl)))));all_goals (first|assumption|omega|(simp;done)|(simp;omega)))))|(apply u_g;(focus rfl);(first|apply op_guard rfl rfl rfl rfl rfl (as_guard rfl)|apply op_guard rfl rfl rfl rfl rfl rfl);intro g1 g2;(first|(apply u_k 20;(focus rfl);apply u_call;(case hp=>exact ⟨rfl,rfl,rfl⟩);(case ho=>exact ⟨_,rfl⟩);(case' hf=>apply key_Right);(case hpl=>rfl);(case hg=>(repeat (first|exact GL.nil|(refine GL.cons ?_ ?_;focus (first|exact gl_per (get_gr rfl (by rw [g2];rfl))|exact gl_per (get_gc rfl (by rw [g2];rfl))|exact gl_lst (get_gc rfl (by rw [g2];rfl))|exact gl_bor (get_gc rfl (by rw [g2];rfl))|exact gl_per rfl|exact gl_lst rfl|exact gl_bor rfl)))));all_goals (first|assumption|omega|(simp;done)|(simp;omega)))|(apply u_k 20;(focus rfl);apply u_call;(case hp=>exact ⟨rfl,rfl,rfl⟩);(case ho=>exact ⟨_,rfl⟩);(case' hf=>apply ver_Right);(case hpl=>rfl);(case hg=>(repeat (first|exact GL.nil|(refine GL.cons ?_ ?_;focus (first|exact gl_per (get_gr rfl (by rw [g2];rfl))|exact gl_per (get_gc rfl (by rw [g2];rfl))|exact gl_lst (get_gc rfl (by rw [g2];rfl))|exact gl_bor (get_gc rfl (by rw [g2];rfl))|exact gl_per rfl|exact gl_lst rfl|exact gl_bor rfl)))));all_goals (first|assumption|omega|(simp;done)|(simp;omega)))))|(apply u_k 20;(focus rfl);first|(apply u_call;(case hp=>exact ⟨rfl,rfl,rfl⟩);(case ho=>exact ⟨_,rfl⟩);(case' hf=>apply key_Right);(case hpl=>rfl);(case hg=>(repeat (first|exact GL.nil|(refine GL.cons ?_ ?_;focus (first|exact gl_per rfl|exact gl_lst rfl|exact gl_row rfl rfl rfl|exact gl_bor rfl|exact gl_nil rfl|exact gl_nil' rfl)))));all_goals (first|assumption|omega|(simp;done)|(simp;omega)))|(apply u_call_own;(case hp=>exact ⟨rfl,rfl,rfl⟩);(case ho=>exact ⟨_,rfl⟩);(case' hf=>apply key_Right);(case hg=>(repeat (first|exact GL.nil|(refine GL.cons ?_ ?_;focus (first|exact gl_per rfl|exact gl_lst rfl|exact gl_row rfl rfl rfl|exact gl_bor rfl|exact gl_nil rfl|exact gl_nil' rfl)))));all_goals (first|assumption|omega|(simp;done)|(simp;omega)))|(apply u_call_own2;(case hp=>exact ⟨rfl,rfl,rfl⟩);(case ho=>exact ⟨_,rfl⟩);(case' hf=>apply key_Right);(case hg=>(repeat (first|exact GL.nil|(refine GL.cons ?_ ?_;focus (first|exact gl_per rfl|exact gl_lst rfl|exact gl_row rfl rfl rfl|exact gl_bor rfl|exact gl_nil rfl|exact gl_nil' rfl)))));all_goals (first|assumption|omega|(simp;done)|(simp;omega))))|(apply u_k 20;(focus rfl);first|(apply u_call;(case hp=>exact ⟨rfl,rfl,rfl⟩);(case ho=>exact ⟨_,rfl⟩);(case' hf=>apply ver_Right);(case hpl=>rfl);(case hg=>(repeat (first|exact GL.nil|(refine GL.cons ?_ ?_;focus (first|exact gl_per rfl|exact gl_lst rfl|exact gl_row rfl rfl rfl|exact gl_bor rfl|exact gl_nil rfl|exact gl_nil' rfl)))));all_goals (first|assumption|omega|(simp;done)|(simp;omega)))|(apply u_call_own;(case hp=>exact ⟨rfl,rfl,rfl⟩);(case ho=>exact ⟨_,rfl⟩);(case' hf=>apply ver_Right);(case hg=>(repeat (first|exact GL.nil|(refine GL.cons ?_ ?_;focus (first|exact gl_per rfl|exact gl_lst rfl|exact gl_row rfl rfl rfl|exact gl_bor rfl|exact gl_nil rfl|exact gl_nil' rfl)))));all_goals (first|assumption|omega|(simp;done)|(simp;omega)))|(apply u_call_own2;(case hp=>exact ⟨rfl,rfl,rfl⟩);(case ho=>exact ⟨_,rfl⟩);(case' hf=>apply ver_Right);(case hg=>(repeat (first|exact GL.nil|(refine GL.cons ?_ ?_;focus (first|exact gl_per rfl|exact gl_lst rfl|exact gl_row rfl rfl rfl|exact gl_bor rfl|exact gl_nil rfl|exact gl_nil' rfl)))));all_goals (first|assumption|omega|(simp;done)|(simp;omega))))))))
 all_goals refine rt1 ?_
 all_goals refine rv_per (per_bool ?_)
 all_goals have hs:x.body.toList = [] ↔ x.body.size = 0:=sz_nil x.body
 all_goals have hn:=nil_toList
 · grind [itR]
 · grind [itR]
 · grind [itR]
theorem ritem_Right (x:It):Fn Tryz.prog 58 [itC x] (boR (itR x)):=by
 refine fi Tryz.func58 Tryz.ntmps58 ?_
 (repeat' (first|refine AW_seq ?_|refine AW_block ?_|refine AW_skip ?_|refine AW_exit ?_|refine AW_ret ?_|refine AW_region ?_|refine AW_draw mixed0 ?_|refine AL_nil ?_|refine AD_nil (by kernel_rfl) ?_|refine thenA_n ?_|refine thenA_r ?_|refine thenA_e ?_|refine inB_n ?_|refine inB_r ?_|refine inB_hit ?_|refine inB_miss rfl ?_|(refine AW_cond_per rfl rfl (fun hc=>?_) (fun hc=>?_) <;> (try rw [Bool.not_eq_true'] at hc) <;> (try rw [Bool.not_eq_false'] at hc) <;> (try first|rw [decide_eq_true_eq] at hc|rw [decide_eq_false_iff_not] at hc|rw [beq_iff_eq] at hc|rw [beq_eq_false_iff_ne] at hc|rw [bne_iff_ne] at hc|rw [bne_eq_false_iff_eq] at hc) <;> (repeat rw [List.length_map] at hc) <;> (try first|contradiction|(exfalso;omega)|(exfalso;simp [*] at hc;done)))|((first|apply AL_t rfl|apply AL_0 rfl|apply AD_t rfl|apply AD_0 rfl);focus (first|exact o_auto|(apply u_g;(focus rfl);(first|apply op_guard_raw rfl rfl rfl rfl rfl (as_guard rfl)|apply op_guard_raw rfl rfl rfl rfl rfl rfl);intro g1 g2;(first|(apply u_k 20;(focus rfl);apply u_call;(case hp=>exact ⟨rfl,rfl,rfl⟩);(case ho=>exact ⟨_,rfl⟩);(case' hf=>apply rkey_Right);(case hpl=>rfl);(case hg=>(repeat (first|exact GL.nil|(refine GL.cons ?_ ?_;focus (first|exact gl_per (get_gr rfl (by rw [g2];rfl))|exact gl_per (get_gc rfl (by rw [g2];rfl))|exact gl_lst (get_gc rfl (by rw [g2];rfl))|exact gl_bor (get_gc rfl (by rw [g2];rfl))|exact gl_per rfl|exact gl_lst rfl|exact gl_bor rfl)))));all_goals (first|assumption|omega|(simp;done)|(simp;omega)))|(apply u_k 20;(focus rfl);apply u_call;(case hp=>exact ⟨rfl,rfl,rfl⟩);(case ho=>exact ⟨_,rfl⟩);(case' hf=>apply rver_Right);(case hpl=>rfl);(case hg=>(repeat (first|exact GL.nil|(refine GL.cons ?_ ?_;focus (first|exact gl_per (get_gr rfl (by rw [g2];rfl))|exact gl_per (get_gc rfl (by rw [g2];rfl))|exact gl_lst (get_gc rfl (by rw [g2];rfl))|exact gl_bor (get_gc rfl (by rw [g2];rfl))|exact gl_per rfl|exact gl_lst rfl|exact gl_bor rfl)))));all_goals (first|assumption|omega|(simp;done)|(simp;omega)))))|(apply u_g;(focus rfl);(first|apply op_guard rfl rfl rfl rfl rfl (as_guard rfl)|apply op_guard rfl rfl rfl rfl rfl rfl);intro g1 g2;(first|(apply u_k 20;(focus rfl);apply u_call;(case hp=>exact ⟨rfl,rfl,rfl⟩);(case ho=>exact ⟨_,rfl⟩);(case' hf=>apply rkey_Right);(case hpl=>rfl);(case hg=>(repeat (first|exact GL.nil|(refine GL.cons ?_ ?_;focus (first|exact gl_per (get_gr rfl (by rw [g2];rfl))|exact gl_per (get_gc rfl (by rw [g2];rfl))|exact gl_lst (get_gc rfl (by rw [g2];rfl))|exact gl_bor (get_gc rfl (by rw [g2];rfl))|exact gl_per rfl|exact gl_lst rfl|exact gl_bor rfl)))));all_goals (first|assumption|omega|(simp;done)|(simp;omega)))|(apply u_k 20;(focus rfl);apply u_call;(case hp=>exact ⟨rfl,rfl,rfl⟩);(case ho=>exact ⟨_,rfl⟩);(case' hf=>apply rver_Right);(case hpl=>rfl);(case hg=>(repeat (first|exact GL.nil|(refine GL.cons ?_ ?_;focus (first|exact gl_per (get_gr rfl (by rw [g2];rfl))|exact gl_per (get_gc rfl (by rw [g2];rfl))|exact gl_lst (get_gc rfl (by rw [g2];rfl))|exact gl_bor (get_gc rfl (by rw [g2];rfl))|exact gl_per rfl|exact gl_lst rfl|exact gl_bor rfl)))));all_goals (first|assumption|omega|(simp;done)|(simp;omega)))))|(apply u_k 20;(focus rfl);first|(apply u_call;(case hp=>exact ⟨rfl,rfl,rfl⟩);(case ho=>exact ⟨_,rfl⟩);(case' hf=>apply rkey_Right);(case hpl=>rfl);(case hg=>(repeat (first|exact GL.nil|(refine GL.cons ?_ ?_;focus (first|exact gl_per rfl|exact gl_lst rfl|exact gl_row rfl rfl rfl|exact gl_bor rfl|exact gl_nil rfl|exact gl_nil' rfl)))));all_goals (first|assumption|omega|(simp;done)|(simp;omega)))|(apply u_call_own;(case hp=>exact ⟨rfl,rfl,rfl⟩);(case ho=>exact ⟨_,rfl⟩);(case' hf=>apply rkey_Right);(case hg=>(repeat (first|exact GL.nil|(refine GL.cons ?_ ?_;focus (first|exact gl_per rfl|exact gl_lst rfl|exact gl_row rfl rfl rfl|exact gl_bor rfl|exact gl_nil rfl|exact gl_nil' rfl)))));all_goals (first|assumption|omega|(simp;done)|(simp;omega)))|(apply u_call_own2;(case hp=>exact ⟨rfl,rfl,rfl⟩);(case ho=>exact ⟨_,rfl⟩);(case' hf=>apply rkey_Right);(case hg=>(repeat (first|exact GL.nil|(refine GL.cons ?_ ?_;focus (first|exact gl_per rfl|exact gl_lst rfl|exact gl_row rfl rfl rfl|exact gl_bor rfl|exact gl_nil rfl|exact gl_nil' rfl)))));all_goals (first|assumption|omega|(simp;done)|(simp;omega))))|(apply u_k 20;(focus rfl);first|(apply u_call;(case hp=>exact ⟨rfl,rfl,rfl⟩);(case ho=>exact ⟨_,rfl⟩);(case' hf=>apply rver_Right);(case hpl=>rfl);(case hg=>(repeat (first|exact GL.nil|(refine GL.cons ?_ ?_;focus (first|exact gl_per rfl|exact gl_lst rfl|exact gl_row rfl rfl rfl|exact gl_bor rfl|exact gl_nil rfl|exact gl_nil' rfl)))));all_goals (first|assumption|omega|(simp;done)|(simp;omega)))|(apply u_call_own;(case hp=>exact ⟨rfl,rfl,rfl⟩);(case ho=>exact ⟨_,rfl⟩);(case' hf=>apply rver_Right);(case hg=>(repeat (first|exact GL.nil|(refine GL.cons ?_ ?_;focus (first|exact gl_per rfl|exact gl_lst rfl|exact gl_row rfl rfl rfl|exact gl_bor rfl|exact gl_nil rfl|exact gl_nil' rfl)))));all_goals (first|assumption|omega|(simp;done)|(simp;omega)))|(apply u_call_own2;(case hp=>exact ⟨rfl,rfl,rfl⟩);(case ho=>exact ⟨_,rfl⟩);(case' hf=>apply rver_Right);(case hg=>(repeat (first|exact GL.nil|(refine GL.cons ?_ ?_;focus (first|exact gl_per rfl|exact gl_lst rfl|exact gl_row rfl rfl rfl|exact gl_bor rfl|exact gl_nil rfl|exact gl_nil' rfl)))));all_goals (first|assumption|omega|(simp;done)|(simp;omega))))))))
 all_goals refine rt1 ?_
 all_goals refine rv_per (per_bool ?_)
 all_goals grind [itR]
end Go.Proofs.YtembiemaiacdfaaGreat
