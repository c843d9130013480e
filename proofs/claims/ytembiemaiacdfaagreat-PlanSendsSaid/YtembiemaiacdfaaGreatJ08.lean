/- Texts joined: Byt Key Varint VarintRef Var It Base. -/
import Derived.Test.YtembiemaiacdfaaGreatJ07
import Derived.Test.YtembiemaiacdfaaGreatJ06
import Derived.Test.YtembiemaiacdfaaGreatJ05
import Derived.Test.YtembiemaiacdfaaGreatRows
import Derived.Test.YtembiemaiacdfaaGreatJ01
import Derived.Outline
set_option maxRecDepth 10000
set_option maxHeartbeats 8000000
namespace Go.Proofs.YtembiemaiacdfaaGreat
open Go.RowKit
section
end
section
end
def gB (n:Nat):List UInt8:=if n < 128 then [UInt8.ofNat n] else UInt8.ofNat (128 + n % 128) :: gB (n / 128)
theorem jY {n:Nat} (h:n < 128):gB n = [UInt8.ofNat n]:=by rw [gB,if_pos h]
theorem o7 {n:Nat} (h:¬ n < 128):gB n = UInt8.ofNat (128 + n % 128) :: gB (n / 128):=by rw [gB,if_neg h]
theorem DN (k:Nat):∀ n,n < 128 ^ (k + 1) → (gB n).length ≤ k + 1:=by
 induction k with
 | zero=>intro n hn;rw [jY (by simpa using hn)];simp
 | succ k ih=>
   intro n hn
   by_cases h:n < 128
   · rw [jY h];simp
   · rw [o7 h]
     have:=ih (n / 128) (by rw [Nat.div_lt_iff_lt_mul (by decide)];rw [← Nat.pow_succ];exact hn)
     simp;omega
theorem ld (n:Nat) (h:n ≤ 9223372036854775807):(gB n).length ≤ 9:=DN 8 n (by omega)
theorem Ju:TI Tryz.prog 43 5 1 1:=TI.mk' Tryz.underlying43 (by kernel_rfl)
theorem zB:(Tryz.prog.info? 5).bind (·.zero) = some (.int .u8 0):=by kernel_rfl
theorem tj (m:Nat) (h:m < 128):encB (UInt8.ofNat m) = [.int .u8 (m:Int)]:=by
 unfold encB;rw [UInt8.toNat_ofNat'];congr 2;omega
theorem vn (m:Nat):encB (UInt8.ofNat (128 + m % 128)) = [.int .u8 ((m:Int) % 128 + 128)]:=by
 unfold encB;rw [UInt8.toNat_ofNat'];congr 2;omega
theorem zq (n0:Int) (v:Value) (l:List UInt8) (wB w:World) (h0:0 ≤ n0) (hn:n0 ≤ 9223372036854775807) (hl:l.length ≤ 70368744177664) (hv:iA 5 1 encB wB w v l) :
   Calls Tryz.prog 248 #[v,.int .i64 n0] w (pq 5 1 encB wB (l ++ gB n0.toNat)):=by
 obtain ⟨n,rfl⟩:=Int.eq_ofNat_of_zero_le h0
 have hlen9:=ld n (by omega)
 have e0:((n:Int)).toNat = n:=by omega
 rw [e0]
 clear e0
 go_enter Tryz.func248,Tryz.ntmps248
 go_wp2
 go_loopw [0,1] (fun v' i wr=>∃ (m:Nat) (done:List UInt8),i = .int .i64 m ∧ m ≤ n ∧ iA 5 1 encB wB wr v' (l ++ done) ∧ done.length ≤ 9 ∧ Hid (done ++ gB m = gB n)) (fun _ i _=>(intOf i).toNat)
 case atStart=>exact ⟨n,[],rfl,Nat.le_refl _,by simpa using hv,by simp,Lib.hid rfl⟩
 case round=>
   obtain ⟨m,done,rfl,hm,hown,hd,HD⟩:=hrel
   by_cases hlt:m < 128
   · go_wp2_with (at_builtin;refine eH rfl _ _ 43 rfl Ju cu wB _ [UInt8.ofNat m] _ _ rfl rfl (hown.alloc _) (Sl.new1 (enc:=encB) cu.len _ _ _ _ (tj m hlt)) ?_ ?_ ?_)
     · (first|omega|(simp;omega)|(unfold maxLen;omega)|(unfold maxLen;simp;omega))
     · (first|omega|(simp;omega)|(unfold maxLen;omega)|(unfold maxLen;simp;omega))
     · intro v' w2 r HR hown2 _ _
       go_wp2
       go_ret
       have h1:=HD.out
       rw [jY hlt] at h1
       have e:l ++ gB n = r:=by rw [← h1];simp [HR.out]
       rw [e]
       exact ⟨_,rfl,hown2⟩
   · have hg:128 ≤ m:=by omega
     go_wp2_with (at_builtin;refine eH rfl _ _ 43 rfl Ju cu wB _ [UInt8.ofNat (128 + m % 128)] _ _ rfl rfl (hown.alloc _) (Sl.new1 (enc:=encB) cu.len _ _ _ _ (vn m)) ?_ ?_ ?_)
     · (first|omega|(simp;omega)|(unfold maxLen;omega)|(unfold maxLen;simp;omega))
     · (first|omega|(simp;omega)|(unfold maxLen;omega)|(unfold maxLen;simp;omega))
     · intro v' w2 r HR hown2 _ _
       have h1:=HD.out
       rw [o7 hlt] at h1
       have h2:(done ++ [UInt8.ofNat (128 + m % 128)]).length ≤ 9:=by
         have:=congrArg List.length h1
         simp at this ⊢;omega
       clear hown
       go_wp2
       go_roundw
       case rel=>exact ⟨m / 128,done ++ [UInt8.ofNat (128 + m % 128)],by go_num,by omega,by rw [show l ++ (done ++ [UInt8.ofNat (128 + m % 128)]) = r by simp [HR.out]];exact hown2,h2,Lib.hid (by simpa using h1)⟩
       case measure=>simp [intOf];omega
def gQ (n:Int):List UInt8:=gB n.toNat
def fg (n:Int):Prop:=0 ≤ n ∧ n ≤ 281474976710656
theorem vo (n:Int) (h:n ≤ 9223372036854775807):(gQ n).length ≤ 9:=ld _ (by omega)
theorem kG (ns:List Int) (h:∀ n ∈ ns,fg n):(ns.flatMap gQ).length ≤ 9 * ns.length:=by
 induction ns with
 | nil=>simp
 | cons n ns ih=>
   have h1:=vo n (by have:=(h n (by simp)).2;omega)
   have h2:=ih (fun m hm=>h m (by simp [hm]))
   simp only [List.flatMap_cons,List.length_append,List.length_cons];omega
theorem JY (v vl:Value) (l:List UInt8) (ns:List Int) (w:World) (hv:Bs w v l) (hl:Sl 1 JG w vl ns) (hb:l.length + 9 * ns.length ≤ 70368744177664)
   (hok:∀ n ∈ ns,fg n):Calls Tryz.prog 249 #[v,vl] w (GU 5 1 encB w (l ++ ns.flatMap gQ) (.int .i64 0)):=by
 obtain ⟨a,c,b,o,rfl,h1,h2,h3,h4⟩:=hl.openI
 have h5:=pn h1 h2
 clear h1 h2 hl
 go_enter Tryz.func249,Tryz.ntmps249
 go_wp2
 go_loop [13] (fun i=>∃ k:Nat,k ≤ ns.length ∧ i = .int .i64 k) (fun i=>ns.length - (intOf i).toNat)
 case atStart=>exact ⟨0,Nat.zero_le _,rfl⟩
 case round=>
   obtain ⟨k,hk,rfl⟩:=hrel
   by_cases hlt:k < ns.length
   · obtain rfl:=h3 (by omega)
     have hc:=h4 k hlt
     obtain ⟨g1,g2⟩:=hok ns[k] (by simp)
     clear h3 h4 hok
     go_wp2
     go_round
     case rel=>exact ⟨k + 1,by omega,by go_num⟩
     case measure=>simp [intOf];omega
   · go_wp2_with (at_builtin;refine eH rfl _ _ 43 rfl Ju cu w [] l _ _ rfl rfl (iA.empty (dB.refl _)) (hv.ext ((dB.refl _).alloc _)) ?_ ?_ ?_)
     · (first|omega|(simp;omega)|(unfold maxLen;omega)|(unfold maxLen;simp;omega))
     · (first|omega|(simp;omega)|(unfold maxLen;omega)|(unfold maxLen;simp;omega))
     · intro v1 w1 r HR hown _ _
       have HR':Hid (r = l):=Lib.hid (by simpa using HR.out)
       clear HR
       go_wp2
       go_loopw [8,29] (fun v i wr=>∃ k:Nat,k ≤ ns.length ∧ i = .int .i64 k ∧ iA 5 1 encB w wr v (l ++ (ns.take k).flatMap gQ)) (fun _ i _=>ns.length - (intOf i).toNat)
       case atStart=>exact ⟨0,Nat.zero_le _,rfl,by rw [← HR'.out];simpa using hown⟩
       case round=>
         obtain ⟨j,hj,rfl,hown⟩:=hrel
         by_cases hjt:j < ns.length
         · obtain rfl:=h3 (by omega)
           have hc:=hown.ext.cell (h4 j hjt)
           obtain ⟨g1,g2⟩:=hok ns[j] (by simp)
           have hs:=Lib.hid (gW ns j hjt)
           have hlen:=kG (ns.take j) (fun n hn=>hok n (List.mem_of_mem_take hn))
           have hlj:(ns.take j).length ≤ j:=List.length_take_le _ _
           have hlen2:(l ++ (ns.take j).flatMap gQ).length ≤ 70368744177664:=by rw [List.length_append];omega
           clear h3 h4 hlen hlj
           go_wp2_with fail
           refine (zq _ _ _ w _ g1 (by omega) hlen2 hown).mono ?_
           rintro e w2 ⟨v2,rfl,hown2⟩
           have HO:=Lib.hid hown2
           clear hown hown2
           go_wp2
           go_roundw
           case rel=>exact ⟨j + 1,by omega,by go_num,by rw [hs.out,List.flatMap_append,← List.append_assoc];simpa [gQ] using HO.out⟩
           case measure=>simp [intOf];omega
         · have HT:=Lib.hid (show ns.take j = ns from List.take_of_length_le (by omega))
           go_wp2
           go_ret2
           rw [HT.out] at hown
           exact ⟨_,rfl,hown⟩
def ed (s:ByteArray):List UInt8:=gB s.size ++ s.data.toList
theorem mK (k:Nat):∀ (n:Nat) (w:World),n ≤ k → n ≤ 9223372036854775807 →
   Calls Tryz.prog 159 #[.int .i64 n] w (pq 5 1 encB w (gB n)):=by
 induction k with
 | zero=>
   intro n w hk hn
   obtain rfl:n = 0:=by omega
   go_enter Tryz.func159,Tryz.ntmps159
   go_wp2_with fail
   go_ret
   exact ⟨_,rfl,by rw [jY (by decide)];exact iA.lit cu.len (dB.refl _) _ _ (by simpa using tj 0 (by decide)) _ rfl (by simp [maxLen])⟩
 | succ k ih=>
   intro n w hk hn
   by_cases hlt:n < 128
   · go_enter Tryz.func159,Tryz.ntmps159
     go_wp2_with fail
     go_ret
     exact ⟨_,rfl,by rw [jY hlt];exact iA.lit cu.len (dB.refl _) _ _ (by simpa using tj n hlt) _ rfl (by simp [maxLen])⟩
   · have hg:128 ≤ n:=by omega
     have HI:=Lib.hid (fun w=>ih (n / 128) w (by omega) (by omega))
     have hlen9:=ld (n / 128) (by omega)
     clear ih
     go_enter Tryz.func159,Tryz.ntmps159
     go_wp2_with fail
     have e1:((n:Int) / 128) = ((n / 128:Nat):Int):=by omega
     rw [e1]
     clear e1
     refine (HI.out _).mono ?_
     rintro e w2 ⟨v2,rfl,hown2⟩
     have hown:iA 5 1 encB w w2 (.slice (some ⟨w.heap.size,0,none⟩) 1 1) [UInt8.ofNat (128 + n % 128)]:=
       (iA.lit cu.len (dB.refl w) _ _ (by simp only [List.flatMap_cons,List.flatMap_nil,List.append_nil];rw [vn,Int.add_comm]) _ rfl (by simp [maxLen])).extend hown2.ext
     have hs2:=hown2.sl cu
     clear hown2 HI
     go_wp2_with (at_builtin;refine eH rfl _ _ 43 rfl Ju cu w _ (gB (n / 128)) _ _ rfl rfl hown hs2 ?_ ?_ ?_)
     · (first|omega|(simp;omega)|(unfold maxLen;omega)|(unfold maxLen;simp;omega))
     · (first|omega|(simp;omega)|(unfold maxLen;omega)|(unfold maxLen;simp;omega))
     · intro v3 w3 r HR hown3 _ _
       have HR':Hid (r = gB n):=Lib.hid (by rw [o7 hlt];simpa using HR.out)
       go_wp2
       go_ret
       exact ⟨_,rfl,by rw [← HR'.out];exact hown3⟩
theorem xC (vl:Value) (ns:List Int) (w:World) (hl:Sl 1 JG w vl ns) (hb:ns.length ≤ 7036874417766)
   (hok:∀ n ∈ ns,fg n):Calls Tryz.prog 160 #[vl] w (pq 5 1 encB w (ns.flatMap gQ)):=by
 obtain ⟨a,c,b,o,rfl,h1,h2,h3,h4⟩:=hl.openI
 clear h1 h2 hl
 go_enter Tryz.func160,Tryz.ntmps160
 go_wp2
 go_loopw [3,4] (fun v i wr=>∃ k:Nat,k ≤ ns.length ∧ i = .int .i64 k ∧ iA 5 1 encB w wr v ((ns.take k).flatMap gQ)) (fun _ i _=>ns.length - (intOf i).toNat)
 case atStart=>exact ⟨0,Nat.zero_le _,rfl,iA.nil (dB.refl _)⟩
 case round=>
   obtain ⟨j,hj,rfl,hown⟩:=hrel
   by_cases hjt:j < ns.length
   · obtain rfl:=h3 (by omega)
     have hc:=hown.ext.cell (h4 j hjt)
     obtain ⟨g1,g2⟩:=hok ns[j] (by simp)
     have hs:=Lib.hid (gW ns j hjt)
     have hlen:=kG (ns.take j) (fun n hn=>hok n (List.mem_of_mem_take hn))
     have hlj:(ns.take j).length ≤ j:=List.length_take_le _ _
     have hl9:=vo ns[j] (by omega)
     generalize hx:ns[j] = x at *
     have HX:=Lib.hid hx
     obtain ⟨m,rfl⟩:=Int.eq_ofNat_of_zero_le g1
     clear h3 h4 hx
     go_wp2_with fail
     refine (mK _ _ _ (Nat.le_refl _) (by omega)).mono ?_
     rintro e w2 ⟨v2,rfl,hown2⟩
     have hown1:=hown.extend hown2.ext
     have hs2:=hown2.sl cu
     clear hown hown2 hc
     generalize hL:(ns.take j).flatMap gQ = L at *
     have HL:=Lib.hid hL
     clear hL
     have hl9':(gB m).length ≤ 9:=hl9
     clear hl9
     go_wp2_with (at_builtin;refine eH rfl _ _ 43 rfl Ju cu w _ _ _ _ rfl rfl hown1 hs2 ?_ ?_ ?_)
     · (first|omega|(simp;omega)|(unfold maxLen;omega)|(unfold maxLen;simp;omega))
     · (first|omega|(simp;omega)|(unfold maxLen;omega)|(unfold maxLen;simp;omega))
     · intro v3 w3 r HR hown3 _ _
       clear hown1
       go_wp2
       go_roundw
       case rel=>exact ⟨j + 1,by omega,by go_num,by rw [hs.out,List.flatMap_append,HL.out,show L ++ List.flatMap gQ [(m:Int)] = r by simp [HR.out,gQ]];exact hown3⟩
       case measure=>simp [intOf];omega
   · have HT:=Lib.hid (show ns.take j = ns from List.take_of_length_le (by omega))
     go_wp2
     go_ret
     rw [HT.out] at hown
     exact ⟨_,rfl,hown⟩
theorem vp (s:ByteArray) (w:World) (hb:s.size ≤ 70368744177664):Calls Tryz.prog 112 #[.string s] w (pq 5 1 encB w (ed s)):=by
 have hlen9:=ld s.size (by omega)
 go_enter Tryz.func112,Tryz.ntmps112
 go_wp2_with fail
 refine (mK _ _ _ (Nat.le_refl _) (by omega)).mono ?_
 rintro e w1 ⟨v1,rfl,hown1⟩
 go_wp2
 go_loopw [3,4] (fun v i wr=>∃ k:Nat,k ≤ s.size ∧ i = .int .i64 k ∧ iA 5 1 encB w wr v (gB s.size ++ s.data.toList.take k)) (fun _ i _=>s.size - (intOf i).toNat)
 case atStart=>exact ⟨0,Nat.zero_le _,rfl,by simpa using hown1⟩
 case round=>
   obtain ⟨j,hj,rfl,hown⟩:=hrel
   by_cases hjt:j < s.size
   · have hs:=Lib.hid (Cv s j hjt)
     have hlj:(s.data.toList.take j).length ≤ j:=List.length_take_le _ _
     have hL:(gB s.size ++ s.data.toList.take j).length ≤ 9 + j:=by rw [List.length_append];omega
     generalize hx:gB s.size ++ s.data.toList.take j = L at *
     have HX:=Lib.hid hx
     clear hx hlj hown1
     go_wp2_with (at_builtin;refine eH rfl _ _ 43 rfl Ju cu w _ [s[j]] _ _ rfl rfl (hown.alloc _) (Sl.new1 (enc:=encB) cu.len _ _ _ _ rfl) ?_ ?_ ?_)
     · (first|omega|(simp;omega)|(unfold maxLen;omega)|(unfold maxLen;simp;omega))
     · (first|omega|(simp;omega)|(unfold maxLen;omega)|(unfold maxLen;simp;omega))
     · intro v3 w3 r HR hown3 _ _
       clear hown
       go_wp2
       go_roundw
       case rel=>exact ⟨j + 1,by omega,by go_num,by rw [hs.out,← List.append_assoc,HX.out,show L ++ [s[j]] = r by rw [HR.out]];exact hown3⟩
       case measure=>simp [intOf];omega
   · have HT:=Lib.hid (GV s j (by omega))
     go_wp2
     go_ret
     rw [HT.out] at hown
     exact ⟨_,rfl,hown⟩
theorem DP (v vl:Value) (l:List UInt8) (ss:List ByteArray) (w:World) (hv:Bs w v l) (hl:Sl 1 KM w vl ss) (hb:l.length + (ss.flatMap ed).length ≤ 7036874417766) :
   Calls Tryz.prog 210 #[v,vl] w (pq 5 1 encB w (l ++ ss.flatMap ed)):=by
 obtain ⟨a,c,b,o,rfl,h1,h2,h3,h4⟩:=hl.openS
 have h5:=pn h1 h2
 clear h1 h2 hl
 go_enter Tryz.func210,Tryz.ntmps210
 go_wp2_with (at_builtin;refine eH rfl _ _ 43 rfl Ju cu w [] l _ _ rfl rfl (iA.empty (dB.refl _)) (hv.ext ((dB.refl _).alloc _)) ?_ ?_ ?_)
 · (first|omega|(simp;omega)|(unfold maxLen;omega)|(unfold maxLen;simp;omega))
 · (first|omega|(simp;omega)|(unfold maxLen;omega)|(unfold maxLen;simp;omega))
 · intro v1 w1 r HR hown _ _
   have HR':Hid (r = l):=Lib.hid (by simpa using HR.out)
   clear HR
   go_wp2
   go_loopw [5,13] (fun v i wr=>∃ k:Nat,k ≤ ss.length ∧ i = .int .i64 k ∧ iA 5 1 encB w wr v (l ++ (ss.take k).flatMap ed)) (fun _ i _=>ss.length - (intOf i).toNat)
   case atStart=>exact ⟨0,Nat.zero_le _,rfl,by rw [← HR'.out];simpa using hown⟩
   case round=>
     obtain ⟨j,hj,rfl,hown⟩:=hrel
     by_cases hjt:j < ss.length
     · obtain rfl:=h3 (by omega)
       have hc:=hown.ext.cell (h4 j hjt)
       have hs:=Lib.hid (gW ss j hjt)
       have hlen:(l ++ (ss.take j).flatMap ed).length + (ed ss[j]).length ≤ 7036874417766:=by
         have h:(ss.take (j + 1) ++ ss.drop (j + 1)) = ss:=List.take_append_drop _ _
         rw [← h,hs.out,List.flatMap_append,List.flatMap_append] at hb
         simp at hb ⊢;omega
       have hsz:(ed ss[j]).length = (gB ss[j].size).length + ss[j].size:=by simp [ed]
       generalize ss[j] = s at *
       have HS:=Lib.hid hsz
       have hsz1:(l ++ (ss.take j).flatMap ed).length + ((gB s.size).length + s.size) ≤ 7036874417766:=by omega
       clear h3 h4 hlen hsz hv hb
       generalize hx:l ++ (ss.take j).flatMap ed = L at *
       have HX:=Lib.hid hx
       clear hx
       go_wp2_with fail
       refine (zq _ _ _ w _ (by omega) (by omega) (by omega) hown).mono ?_
       rintro e w2 ⟨v2,rfl,hown2⟩
       have ht:Hid (((s.size:Int)).toNat = s.size):=Lib.hid (by omega)
       rw [ht.out] at hown2
       clear hown hc
       go_wp2_with (at_builtin;refine uj rfl _ _ 43 9 rfl Ju zB Tryz.underlying9 w _ s _ rfl rfl hown2 ?_ ?_)
       · (first|omega|(simp;omega)|(unfold maxLen;omega)|(unfold maxLen;simp;omega))
       · intro v3 w3 r HR hown3 _
         clear hown2
         go_wp2
         go_roundw
         case rel=>exact ⟨j + 1,by omega,by go_num,by rw [hs.out,List.flatMap_append,← List.append_assoc,HX.out,show L ++ List.flatMap ed [s] = r by simp [HR.out,ed]];exact hown3⟩
         case measure=>simp [intOf];omega
     · have HT:=Lib.hid (show ss.take j = ss from List.take_of_length_le (by omega))
       go_wp2
       go_ret
       rw [HT.out] at hown
       exact ⟨_,rfl,hown⟩
abbrev rr (l:List UInt8):Ret:=.own 5 1 (l.map byteP)
theorem pM (l:List UInt8) (ns:List Int) (hb:l.length + 9 * ns.length ≤ 1000000000000) (hok:∀ n ∈ ns,fg n) :
   Fn Tryz.prog 249 [ii l,vh ns] (.tup2 (rr (l ++ ns.flatMap gQ)) (.per (ao (.int .i64 0)))):=by
 refine ⟨⟨_,Tryz.func249,by kernel_rfl,by kernel_rfl⟩,fun N0 w vs _ ha=>?_⟩
 obtain ⟨v,u,rfl,h1,h2⟩:=zn ha
 refine Calls.mono (JY v u l ns w (pD h1) (xw h2) (by omega) hok) ?_
 rintro e w' ⟨v',rfl,h⟩
 exact ⟨_,rfl,h.ext,_,_,rfl,td cu h,rfl⟩
theorem kH (l:List UInt8) (ss:List ByteArray) (hb:l.length + (ss.flatMap ed).length ≤ 1000000000000) :
   Fn Tryz.prog 210 [ii l,KS ss] (rr (l ++ ss.flatMap ed)):=by
 refine ⟨⟨_,Tryz.func210,by kernel_rfl,by kernel_rfl⟩,fun N0 w vs _ ha=>?_⟩
 obtain ⟨v,u,rfl,h1,h2⟩:=zn ha
 refine Calls.mono (DP v u l ss w (pD h1) (xw h2) (by omega)) ?_
 rintro e w' ⟨v',rfl,h⟩
 exact ⟨_,rfl,h.ext,td cu h⟩
theorem tk (ns:List Int) (hb:ns.length ≤ 1000000000) (hok:∀ n ∈ ns,fg n):Fn Tryz.prog 160 [vh ns] (rr (ns.flatMap gQ)):=by
 refine ⟨⟨_,Tryz.func160,by kernel_rfl,by kernel_rfl⟩,fun N0 w vs _ ha=>?_⟩
 obtain ⟨v,rfl,h1⟩:=Jt ha
 refine Calls.mono (xC v ns w (xw h1) (by omega) hok) ?_
 rintro e w' ⟨v',rfl,h⟩
 exact ⟨_,rfl,h.ext,td cu h⟩
theorem vq (s:ByteArray) (hb:s.size ≤ 70368744177664):Fn Tryz.prog 112 [sC s] (rr (ed s)):=by
 refine ⟨⟨_,Tryz.func112,by kernel_rfl,by kernel_rfl⟩,fun N0 w vs _ ha=>?_⟩
 obtain ⟨v,rfl,h1⟩:=Jt ha
 obtain rfl:v = .string s:=h1
 refine Calls.mono (vp s w hb) ?_
 rintro e w' ⟨v',rfl,h⟩
 exact ⟨_,rfl,h.ext,td cu h⟩
structure It where
 key:ByteArray
 rep:Int
 cnt:Int
 rank:Int
 prio:Int
 dead:Bool
 body:ByteArray
deriving DecidableEq
def encIt (x:It):List Value:=[.string x.key,.int .i64 x.rep,.int .i64 x.cnt,.int .i64 x.rank,.int .i64 x.prio,.bool x.dead,.string x.body]
def fy (s:ByteArray):Bool:=decide (1 ≤ s.size ∧ s.size ≤ 16)
def dF (r c:Int):Bool:=decide (1 ≤ r ∧ r ≤ 16 ∧ 1 ≤ c ∧ c ≤ 1099511627776)
def fx (x:It):Bool:=fy x.key && dF x.rep x.cnt && decide (1 ≤ x.rank ∧ x.rank ≤ 1099511627776 ∧ 0 ≤ x.prio ∧ x.prio ≤ 255 ∧ x.body.size ≤ 64 ∧ (x.dead = true → x.body.size = 0))
theorem DQ:Cp 7 encIt:=⟨by decide,fun _=>rfl,fun x u hu=>by
 simp only [encIt,List.mem_cons,List.not_mem_nil,or_false] at hu
 rcases hu with rfl|rfl|rfl|rfl|rfl|rfl|rfl <;> rfl⟩
abbrev itP (x:It):List PV:=[ao (.string x.key),ao (.int .i64 x.rep),ao (.int .i64 x.cnt),ao (.int .i64 x.rank),ao (.int .i64 x.prio),ao (.bool x.dead),ao (.string x.body)]
abbrev oP (x:It):Cnt:=.per (bW (itP x))
abbrev L7 (r c:Int):List PV:=[ao (.int .i64 r),ao (.int .i64 c)]
abbrev oQ (r c:Int):Cnt:=.per (bW (L7 r c))
theorem fh {a b:Bool} (h:a = b):Cnt.per (ao (.bool a)) = .per (ao (.bool b)):=by rw [h]
theorem xD:(⟨#[]⟩:ByteArray).toList = []:=by rw [jJ]
theorem JZ (s:ByteArray):s.toList = [] ↔ s.size = 0:=by
 rw [jJ,← List.length_eq_zero_iff,sH]
theorem fN (s:ByteArray):Fn Tryz.prog 79 [sC s] (cU (fy s)):=by
 refine fi Tryz.func79 Tryz.ntmps79 ?_
 (refine wH ?_;(repeat' first|refine W2.mk ?_ ?_|refine W1.mk fun hc=>?_))
 refine aO ?_
 refine b0 (fh ?_)
 rw [fy,Bool.eq_iff_iff];simp;omega
theorem im (s:ByteArray):Fn Tryz.prog 110 [sC s] (cU (fy s)):=by
 refine fi Tryz.func110 Tryz.ntmps110 ?_
 (refine wH ?_;(repeat' first|refine W2.mk ?_ ?_|refine W1.mk fun hc=>?_))
 refine aO ?_
 refine b0 (fh ?_)
 rw [fy,Bool.eq_iff_iff];simp;omega
theorem ei (r c:Int):Fn Tryz.prog 151 [oQ r c] (cU (dF r c)):=by
 refine fi Tryz.func151 Tryz.ntmps151 ?_
 (refine wH ?_;(repeat' first|refine W2.mk ?_ ?_|refine W1.mk fun hc=>?_))
 refine aO ?_
 refine b0 (fh ?_)
 rw [dF,Bool.eq_iff_iff];simp;omega
theorem eL (r c:Int):Fn Tryz.prog 111 [oQ r c] (cU (dF r c)):=by
 refine fi Tryz.func111 Tryz.ntmps111 ?_
 (refine wH ?_;(repeat' first|refine W2.mk ?_ ?_|refine W1.mk fun hc=>?_))
 refine aO ?_
 refine b0 (fh ?_)
 rw [dF,Bool.eq_iff_iff];simp;omega
theorem dM (x:It):Fn Tryz.prog 119 [oP x] (cU (fx x)):=by
 refine fi Tryz.func119 Tryz.ntmps119 ?_
 (repeat' (first|refine cl ?_|refine bh ?_|refine bx ?_|refine bz ?_|refine cm ?_|refine aW ?_|refine cv dm ?_|refine cj ?_|refine ck (by kernel_rfl) ?_|refine bB ?_|refine bD ?_|refine bF ?_|refine dv ?_|refine dw ?_|refine bG ?_|refine bi rfl ?_|(refine cV rfl rfl (fun hc=>?_) (fun hc=>?_) <;> (try rw [Bool.not_eq_true'] at hc) <;> (try rw [Bool.not_eq_false'] at hc) <;> (try first|rw [decide_eq_true_eq] at hc|rw [decide_eq_false_iff_not] at hc|rw [beq_iff_eq] at hc|rw [beq_eq_false_iff_ne] at hc|rw [bne_iff_ne] at hc|rw [bne_eq_false_iff_eq] at hc) <;> (repeat rw [List.length_map] at hc) <;> (try first|contradiction|(exfalso;omega)|(exfalso;simp [*] at hc;done)))|((first|apply aB rfl|apply aC rfl|apply aD rfl|apply aF rfl);focus (first|exact lW|(apply bt;(focus rfl);(first|apply dq rfl rfl rfl rfl rfl (ga rfl)|apply dq rfl rfl rfl rfl rfl rfl);intro g1 g2;(first|(apply ax 20;(focus rfl);apply dl;(case hp=>exact ⟨rfl,rfl,rfl⟩);(case ho=>exact ⟨_,rfl⟩);(case' hf=>apply fN);(case hpl=>rfl);(case hg=>(repeat (first|exact GL.nil|(refine GL.cons ?_ ?_;focus (first|exact aL (aj rfl (by rw [g2];rfl))|exact aL (ai rfl (by rw [g2];rfl))|exact aR (ai rfl (by rw [g2];rfl))|exact aU (ai rfl (by rw [g2];rfl))|exact aL rfl|exact aR rfl|exact aU rfl)))));all_goals (first|assumption|omega|(simp;done)|(simp;omega)))|(apply ax 20;(focus rfl);apply dl;(case hp=>exact ⟨rfl,rfl,rfl⟩);(case ho=>exact ⟨_,rfl⟩);(case' hf=>apply ei);(case hpl=>rfl);(case hg=>(repeat (first|exact GL.nil|(refine GL.cons ?_ ?_;focus (first|exact aL (aj rfl (by rw [g2];rfl))|exact aL (ai rfl (by rw [g2];rfl))|exact aR (ai rfl (by rw [g2];rfl))|exact aU (ai rfl (by rw [g2];rfl))|exact aL rfl|exact aR rfl|exact aU rfl)))));all_goals (first|assumption|omega|(simp;done)|(simp;omega)))))|(apply bt;(focus rfl);(first|apply f9 rfl rfl rfl rfl rfl (ga rfl)|apply f9 rfl rfl rfl rfl rfl rfl);intro g1 g2;(first|(apply ax 20;(focus rfl);apply dl;(case hp=>exact ⟨rfl,rfl,rfl⟩);(case ho=>exact ⟨_,rfl⟩);(case' hf=>apply fN);(case hpl=>rfl);(case hg=>(repeat (first|exact GL.nil|(refine GL.cons ?_ ?_;focus (first|exact aL (aj rfl (by rw [g2];rfl))|exact aL (ai rfl (by rw [g2];rfl))|exact aR (ai rfl (by rw [g2];rfl))|exact aU (ai rfl (by rw [g2];rfl))|exact aL rfl|exact aR rfl|exact aU rfl)))));all_goals (first|assumption|omega|(simp;done)|(simp;omega)))|(apply ax 20;(focus rfl);apply dl;(case hp=>exact ⟨rfl,rfl,rfl⟩);(case ho=>exact ⟨_,rfl⟩);(case' hf=>apply ei);(case hpl=>rfl);(case hg=>(repeat (first|exact GL.nil|(refine GL.cons ?_ ?_;focus (first|exact aL (aj rfl (by rw [g2];rfl))|exact aL (ai rfl (by rw [g2];rfl))|exact aR (ai rfl (by rw [g2];rfl))|exact aU (ai rfl (by rw [g2];rfl))|exact aL rfl|exact aR rfl|exact aU rfl)))));all_goals (first|assumption|omega|(simp;done)|(simp;omega)))))|(apply ax 20;(focus rfl);first|(apply dl;(case hp=>exact ⟨rfl,rfl,rfl⟩);(case ho=>exact ⟨_,rfl⟩);(case' hf=>apply fN);(case hpl=>rfl);(case hg=>(repeat (first|exact GL.nil|(refine GL.cons ?_ ?_;focus (first|exact aL rfl|exact aR rfl|exact bM rfl rfl rfl|exact aU rfl|exact bN rfl|exact bf rfl)))));all_goals (first|assumption|omega|(simp;done)|(simp;omega)))|(apply fK;(case hp=>exact ⟨rfl,rfl,rfl⟩);(case ho=>exact ⟨_,rfl⟩);(case' hf=>apply fN);(case hg=>(repeat (first|exact GL.nil|(refine GL.cons ?_ ?_;focus (first|exact aL rfl|exact aR rfl|exact bM rfl rfl rfl|exact aU rfl|exact bN rfl|exact bf rfl)))));all_goals (first|assumption|omega|(simp;done)|(simp;omega)))|(apply eS;(case hp=>exact ⟨rfl,rfl,rfl⟩);(case ho=>exact ⟨_,rfl⟩);(case' hf=>apply fN);(case hg=>(repeat (first|exact GL.nil|(refine GL.cons ?_ ?_;focus (first|exact aL rfl|exact aR rfl|exact bM rfl rfl rfl|exact aU rfl|exact bN rfl|exact bf rfl)))));all_goals (first|assumption|omega|(simp;done)|(simp;omega))))|(apply ax 20;(focus rfl);first|(apply dl;(case hp=>exact ⟨rfl,rfl,rfl⟩);(case ho=>exact ⟨_,rfl⟩);(case' hf=>apply ei);(case hpl=>rfl);(case hg=>(repeat (first|exact GL.nil|(refine GL.cons ?_ ?_;focus (first|exact aL rfl|exact aR rfl|exact bM rfl rfl rfl|exact aU rfl|exact bN rfl|exact bf rfl)))));all_goals (first|assumption|omega|(simp;done)|(simp;omega)))|(apply fK;(case hp=>exact ⟨rfl,rfl,rfl⟩);(case ho=>exact ⟨_,rfl⟩);(case' hf=>apply ei);(case hg=>(repeat (first|exact GL.nil|(refine GL.cons ?_ ?_;focus (first|exact aL rfl|exact aR rfl|exact bM rfl rfl rfl|exact aU rfl|exact bN rfl|exact bf rfl)))));all_goals (first|assumption|omega|(simp;done)|(simp;omega)))|(apply eS;(case hp=>exact ⟨rfl,rfl,rfl⟩);(case ho=>exact ⟨_,rfl⟩);(case' hf=>apply ei);(case hg=>(repeat (first|exact GL.nil|(refine GL.cons ?_ ?_;focus (first|exact aL rfl|exact aR rfl|exact bM rfl rfl rfl|exact aU rfl|exact bN rfl|exact bf rfl)))));all_goals (first|assumption|omega|(simp;done)|(simp;omega))))))))
 all_goals refine aO ?_
 all_goals refine b0 (fh ?_)
 all_goals have hs:x.body.toList = [] ↔ x.body.size = 0:=JZ x.body
 all_goals have hn:=xD
 · grind [fx]
 · grind [fx]
 · grind [fx]
theorem gm (x:It):Fn Tryz.prog 58 [oP x] (cU (fx x)):=by
 refine fi Tryz.func58 Tryz.ntmps58 ?_
 (repeat' (first|refine cl ?_|refine bh ?_|refine bx ?_|refine bz ?_|refine cm ?_|refine aW ?_|refine cv dm ?_|refine cj ?_|refine ck (by kernel_rfl) ?_|refine bB ?_|refine bD ?_|refine bF ?_|refine dv ?_|refine dw ?_|refine bG ?_|refine bi rfl ?_|(refine cV rfl rfl (fun hc=>?_) (fun hc=>?_) <;> (try rw [Bool.not_eq_true'] at hc) <;> (try rw [Bool.not_eq_false'] at hc) <;> (try first|rw [decide_eq_true_eq] at hc|rw [decide_eq_false_iff_not] at hc|rw [beq_iff_eq] at hc|rw [beq_eq_false_iff_ne] at hc|rw [bne_iff_ne] at hc|rw [bne_eq_false_iff_eq] at hc) <;> (repeat rw [List.length_map] at hc) <;> (try first|contradiction|(exfalso;omega)|(exfalso;simp [*] at hc;done)))|((first|apply aB rfl|apply aC rfl|apply aD rfl|apply aF rfl);focus (first|exact lW|(apply bt;(focus rfl);(first|apply dq rfl rfl rfl rfl rfl (ga rfl)|apply dq rfl rfl rfl rfl rfl rfl);intro g1 g2;(first|(apply ax 20;(focus rfl);apply dl;(case hp=>exact ⟨rfl,rfl,rfl⟩);(case ho=>exact ⟨_,rfl⟩);(case' hf=>apply im);(case hpl=>rfl);(case hg=>(repeat (first|exact GL.nil|(refine GL.cons ?_ ?_;focus (first|exact aL (aj rfl (by rw [g2];rfl))|exact aL (ai rfl (by rw [g2];rfl))|exact aR (ai rfl (by rw [g2];rfl))|exact aU (ai rfl (by rw [g2];rfl))|exact aL rfl|exact aR rfl|exact aU rfl)))));all_goals (first|assumption|omega|(simp;done)|(simp;omega)))|(apply ax 20;(focus rfl);apply dl;(case hp=>exact ⟨rfl,rfl,rfl⟩);(case ho=>exact ⟨_,rfl⟩);(case' hf=>apply eL);(case hpl=>rfl);(case hg=>(repeat (first|exact GL.nil|(refine GL.cons ?_ ?_;focus (first|exact aL (aj rfl (by rw [g2];rfl))|exact aL (ai rfl (by rw [g2];rfl))|exact aR (ai rfl (by rw [g2];rfl))|exact aU (ai rfl (by rw [g2];rfl))|exact aL rfl|exact aR rfl|exact aU rfl)))));all_goals (first|assumption|omega|(simp;done)|(simp;omega)))))|(apply bt;(focus rfl);(first|apply f9 rfl rfl rfl rfl rfl (ga rfl)|apply f9 rfl rfl rfl rfl rfl rfl);intro g1 g2;(first|(apply ax 20;(focus rfl);apply dl;(case hp=>exact ⟨rfl,rfl,rfl⟩);(case ho=>exact ⟨_,rfl⟩);(case' hf=>apply im);(case hpl=>rfl);(case hg=>(repeat (first|exact GL.nil|(refine GL.cons ?_ ?_;focus (first|exact aL (aj rfl (by rw [g2];rfl))|exact aL (ai rfl (by rw [g2];rfl))|exact aR (ai rfl (by rw [g2];rfl))|exact aU (ai rfl (by rw [g2];rfl))|exact aL rfl|exact aR rfl|exact aU rfl)))));all_goals (first|assumption|omega|(simp;done)|(simp;omega)))|(apply ax 20;(focus rfl);apply dl;(case hp=>exact ⟨rfl,rfl,rfl⟩);(case ho=>exact ⟨_,rfl⟩);(case' hf=>apply eL);(case hpl=>rfl);(case hg=>(repeat (first|exact GL.nil|(refine GL.cons ?_ ?_;focus (first|exact aL (aj rfl (by rw [g2];rfl))|exact aL (ai rfl (by rw [g2];rfl))|exact aR (ai rfl (by rw [g2];rfl))|exact aU (ai rfl (by rw [g2];rfl))|exact aL rfl|exact aR rfl|exact aU rfl)))));all_goals (first|assumption|omega|(simp;done)|(simp;omega)))))|(apply ax 20;(focus rfl);first|(apply dl;(case hp=>exact ⟨rfl,rfl,rfl⟩);(case ho=>exact ⟨_,rfl⟩);(case' hf=>apply im);(case hpl=>rfl);(case hg=>(repeat (first|exact GL.nil|(refine GL.cons ?_ ?_;focus (first|exact aL rfl|exact aR rfl|exact bM rfl rfl rfl|exact aU rfl|exact bN rfl|exact bf rfl)))));all_goals (first|assumption|omega|(simp;done)|(simp;omega)))|(apply fK;(case hp=>exact ⟨rfl,rfl,rfl⟩);(case ho=>exact ⟨_,rfl⟩);(case' hf=>apply im);(case hg=>(repeat (first|exact GL.nil|(refine GL.cons ?_ ?_;focus (first|exact aL rfl|exact aR rfl|exact bM rfl rfl rfl|exact aU rfl|exact bN rfl|exact bf rfl)))));all_goals (first|assumption|omega|(simp;done)|(simp;omega)))|(apply eS;(case hp=>exact ⟨rfl,rfl,rfl⟩);(case ho=>exact ⟨_,rfl⟩);(case' hf=>apply im);(case hg=>(repeat (first|exact GL.nil|(refine GL.cons ?_ ?_;focus (first|exact aL rfl|exact aR rfl|exact bM rfl rfl rfl|exact aU rfl|exact bN rfl|exact bf rfl)))));all_goals (first|assumption|omega|(simp;done)|(simp;omega))))|(apply ax 20;(focus rfl);first|(apply dl;(case hp=>exact ⟨rfl,rfl,rfl⟩);(case ho=>exact ⟨_,rfl⟩);(case' hf=>apply eL);(case hpl=>rfl);(case hg=>(repeat (first|exact GL.nil|(refine GL.cons ?_ ?_;focus (first|exact aL rfl|exact aR rfl|exact bM rfl rfl rfl|exact aU rfl|exact bN rfl|exact bf rfl)))));all_goals (first|assumption|omega|(simp;done)|(simp;omega)))|(apply fK;(case hp=>exact ⟨rfl,rfl,rfl⟩);(case ho=>exact ⟨_,rfl⟩);(case' hf=>apply eL);(case hg=>(repeat (first|exact GL.nil|(refine GL.cons ?_ ?_;focus (first|exact aL rfl|exact aR rfl|exact bM rfl rfl rfl|exact aU rfl|exact bN rfl|exact bf rfl)))));all_goals (first|assumption|omega|(simp;done)|(simp;omega)))|(apply eS;(case hp=>exact ⟨rfl,rfl,rfl⟩);(case ho=>exact ⟨_,rfl⟩);(case' hf=>apply eL);(case hg=>(repeat (first|exact GL.nil|(refine GL.cons ?_ ?_;focus (first|exact aL rfl|exact aR rfl|exact bM rfl rfl rfl|exact aU rfl|exact bN rfl|exact bf rfl)))));all_goals (first|assumption|omega|(simp;done)|(simp;omega))))))))
 all_goals refine aO ?_
 all_goals refine b0 (fh ?_)
 all_goals grind [fx]
end Go.Proofs.YtembiemaiacdfaaGreat
