/- Texts joined: Byt Key Varint VarintRef Var It Base. -/
import Derived.Test.YtembiemaiacdfaaGreatJ07
import Derived.Test.YtembiemaiacdfaaGreatJ06
import Derived.Test.YtembiemaiacdfaaGreatJ05
import Derived.Test.YtembiemaiacdfaaGreatRows
import Derived.Test.YtembiemaiacdfaaGreatJ01
import Derived.Outline
set_option maxRecDepth 10000
set_option maxHeartbeats 8000000
namespace Go.Proofs.YtembiemaiacdfaaGreat
open Go.RowKit
section
end
section
end
def iR (n:Nat):List UInt8:=if n < 128 then [UInt8.ofNat n] else UInt8.ofNat (128 + n % 128) :: iR (n / 128)
theorem kc {n:Nat} (h:n < 128):iR n = [UInt8.ofNat n]:=by rw [iR,if_pos h]
theorem pf {n:Nat} (h:¬ n < 128):iR n = UInt8.ofNat (128 + n % 128) :: iR (n / 128):=by rw [iR,if_neg h]
theorem EM (k:Nat):∀ n,n < 128 ^ (k + 1) → (iR n).length ≤ k + 1:=by
 induction k with
 | zero=>intro n hn;rw [kc (by simpa using hn)];simp
 | succ k ih=>
   intro n hn
   by_cases h:n < 128
   · rw [kc h];simp
   · rw [pf h]
     have:=ih (n / 128) (by rw [Nat.div_lt_iff_lt_mul (by decide)];rw [← Nat.pow_succ];exact hn)
     simp;omega
theorem n7 (n:Nat) (h:n ≤ 9223372036854775807):(iR n).length ≤ 9:=EM 8 n (by omega)
theorem KA:TI Tryz.prog 43 5 1 1:=TI.mk' Tryz.underlying43 (by kernel_rfl)
theorem zB:(Tryz.prog.info? 5).bind (·.zero) = some (.int .u8 0):=by kernel_rfl
theorem tK (m:Nat) (h:m < 128):encB (UInt8.ofNat m) = [.int .u8 (m:Int)]:=by
 unfold encB;rw [UInt8.toNat_ofNat'];congr 2;omega
theorem vP (m:Nat):encB (UInt8.ofNat (128 + m % 128)) = [.int .u8 ((m:Int) % 128 + 128)]:=by
 unfold encB;rw [UInt8.toNat_ofNat'];congr 2;omega
theorem Aj (n0:Int) (v:Value) (l:List UInt8) (wB w:World) (h0:0 ≤ n0) (hn:n0 ≤ 9223372036854775807) (hl:l.length ≤ 70368744177664) (hv:iV 5 1 encB wB w v l) :
   Calls Tryz.prog 248 #[v,.int .i64 n0] w (td 5 1 encB wB (l ++ iR n0.toNat)):=by
 obtain ⟨n,rfl⟩:=Int.eq_ofNat_of_zero_le h0
 have hlen9:=n7 n (by omega)
 have e0:((n:Int)).toNat = n:=by omega
 rw [e0]
 clear e0
 go_enter Tryz.func248,Tryz.ntmps248
 go_wp2
 go_loopw [0,1] (fun v' i wr=>∃ (m:Nat) (done:List UInt8),i = .int .i64 m ∧ m ≤ n ∧ iV 5 1 encB wB wr v' (l ++ done) ∧ done.length ≤ 9 ∧ Hid (done ++ iR m = iR n)) (fun _ i _=>(intOf i).toNat)
 case atStart=>exact ⟨n,[],rfl,Nat.le_refl _,by simpa using hv,by simp,Lib.hid rfl⟩
 case round=>
   obtain ⟨m,done,rfl,hm,hown,hd,HD⟩:=hrel
   by_cases hlt:m < 128
   · go_wp2_with (at_builtin;refine fS rfl _ _ 43 rfl KA da wB _ [UInt8.ofNat m] _ _ rfl rfl (hown.alloc _) (Sl.new1 (enc:=encB) da.len _ _ _ _ (tK m hlt)) ?_ ?_ ?_)
     · (first|omega|(simp;omega)|(unfold maxLen;omega)|(unfold maxLen;simp;omega))
     · (first|omega|(simp;omega)|(unfold maxLen;omega)|(unfold maxLen;simp;omega))
     · intro v' w2 r HR hown2 _ _
       go_wp2
       go_ret
       have h1:=HD.out
       rw [kc hlt] at h1
       have e:l ++ iR n = r:=by rw [← h1];simp [HR.out]
       rw [e]
       exact ⟨_,rfl,hown2⟩
   · have hg:128 ≤ m:=by omega
     go_wp2_with (at_builtin;refine fS rfl _ _ 43 rfl KA da wB _ [UInt8.ofNat (128 + m % 128)] _ _ rfl rfl (hown.alloc _) (Sl.new1 (enc:=encB) da.len _ _ _ _ (vP m)) ?_ ?_ ?_)
     · (first|omega|(simp;omega)|(unfold maxLen;omega)|(unfold maxLen;simp;omega))
     · (first|omega|(simp;omega)|(unfold maxLen;omega)|(unfold maxLen;simp;omega))
     · intro v' w2 r HR hown2 _ _
       have h1:=HD.out
       rw [pf hlt] at h1
       have h2:(done ++ [UInt8.ofNat (128 + m % 128)]).length ≤ 9:=by
         have:=congrArg List.length h1
         simp at this ⊢;omega
       clear hown
       go_wp2
       go_roundw
       case rel=>exact ⟨m / 128,done ++ [UInt8.ofNat (128 + m % 128)],by go_num,by omega,by rw [show l ++ (done ++ [UInt8.ofNat (128 + m % 128)]) = r by simp [HR.out]];exact hown2,h2,Lib.hid (by simpa using h1)⟩
       case measure=>simp [intOf];omega
def g8 (n:Int):List UInt8:=iR n.toNat
def fC (n:Int):Prop:=0 ≤ n ∧ n ≤ 281474976710656
theorem vQ (n:Int) (h:n ≤ 9223372036854775807):(g8 n).length ≤ 9:=n7 _ (by omega)
theorem pU (ns:List Int) (h:∀ n ∈ ns,fC n):(ns.flatMap g8).length ≤ 9 * ns.length:=by
 induction ns with
 | nil=>simp
 | cons n ns ih=>
   have h1:=vQ n (by have:=(h n (by simp)).2;omega)
   have h2:=ih (fun m hm=>h m (by simp [hm]))
   simp only [List.flatMap_cons,List.length_append,List.length_cons];omega
theorem KB (v vl:Value) (l:List UInt8) (ns:List Int) (w:World) (hv:Bs w v l) (hl:Sl 1 Ki w vl ns) (hb:l.length + 9 * ns.length ≤ 70368744177664)
   (hok:∀ n ∈ ns,fC n):Calls Tryz.prog 249 #[v,vl] w (Hw 5 1 encB w (l ++ ns.flatMap g8) (.int .i64 0)):=by
 obtain ⟨a,c,b,o,rfl,h1,h2,h3,h4⟩:=hl.openI
 have h5:=pE h1 h2
 clear h1 h2 hl
 go_enter Tryz.func249,Tryz.ntmps249
 go_wp2
 go_loop [13] (fun i=>∃ k:Nat,k ≤ ns.length ∧ i = .int .i64 k) (fun i=>ns.length - (intOf i).toNat)
 case atStart=>exact ⟨0,Nat.zero_le _,rfl⟩
 case round=>
   obtain ⟨k,hk,rfl⟩:=hrel
   by_cases hlt:k < ns.length
   · obtain rfl:=h3 (by omega)
     have hc:=h4 k hlt
     obtain ⟨g1,g2⟩:=hok ns[k] (by simp)
     clear h3 h4 hok
     go_wp2
     go_round
     case rel=>exact ⟨k + 1,by omega,by go_num⟩
     case measure=>simp [intOf];omega
   · go_wp2_with (at_builtin;refine fS rfl _ _ 43 rfl KA da w [] l _ _ rfl rfl (iV.empty (dJ.refl _)) (hv.ext ((dJ.refl _).alloc _)) ?_ ?_ ?_)
     · (first|omega|(simp;omega)|(unfold maxLen;omega)|(unfold maxLen;simp;omega))
     · (first|omega|(simp;omega)|(unfold maxLen;omega)|(unfold maxLen;simp;omega))
     · intro v1 w1 r HR hown _ _
       have HR':Hid (r = l):=Lib.hid (by simpa using HR.out)
       clear HR
       go_wp2
       go_loopw [8,29] (fun v i wr=>∃ k:Nat,k ≤ ns.length ∧ i = .int .i64 k ∧ iV 5 1 encB w wr v (l ++ (ns.take k).flatMap g8)) (fun _ i _=>ns.length - (intOf i).toNat)
       case atStart=>exact ⟨0,Nat.zero_le _,rfl,by rw [← HR'.out];simpa using hown⟩
       case round=>
         obtain ⟨j,hj,rfl,hown⟩:=hrel
         by_cases hjt:j < ns.length
         · obtain rfl:=h3 (by omega)
           have hc:=hown.ext.cell (h4 j hjt)
           obtain ⟨g1,g2⟩:=hok ns[j] (by simp)
           have hs:=Lib.hid (ib ns j hjt)
           have hlen:=pU (ns.take j) (fun n hn=>hok n (List.mem_of_mem_take hn))
           have hlj:(ns.take j).length ≤ j:=List.length_take_le _ _
           have hlen2:(l ++ (ns.take j).flatMap g8).length ≤ 70368744177664:=by rw [List.length_append];omega
           clear h3 h4 hlen hlj
           go_wp2_with fail
           refine (Aj _ _ _ w _ g1 (by omega) hlen2 hown).mono ?_
           rintro e w2 ⟨v2,rfl,hown2⟩
           have HO:=Lib.hid hown2
           clear hown hown2
           go_wp2
           go_roundw
           case rel=>exact ⟨j + 1,by omega,by go_num,by rw [hs.out,List.flatMap_append,← List.append_assoc];simpa [g8] using HO.out⟩
           case measure=>simp [intOf];omega
         · have HT:=Lib.hid (show ns.take j = ns from List.take_of_length_le (by omega))
           go_wp2
           go_ret2
           rw [HT.out] at hown
           exact ⟨_,rfl,hown⟩
def fq (s:ByteArray):List UInt8:=iR s.size ++ s.data.toList
theorem tL (k:Nat):∀ (n:Nat) (w:World),n ≤ k → n ≤ 9223372036854775807 →
   Calls Tryz.prog 159 #[.int .i64 n] w (td 5 1 encB w (iR n)):=by
 induction k with
 | zero=>
   intro n w hk hn
   obtain rfl:n = 0:=by omega
   go_enter Tryz.func159,Tryz.ntmps159
   go_wp2_with fail
   go_ret
   exact ⟨_,rfl,by rw [kc (by decide)];exact iV.lit da.len (dJ.refl _) _ _ (by simpa using tK 0 (by decide)) _ rfl (by simp [maxLen])⟩
 | succ k ih=>
   intro n w hk hn
   by_cases hlt:n < 128
   · go_enter Tryz.func159,Tryz.ntmps159
     go_wp2_with fail
     go_ret
     exact ⟨_,rfl,by rw [kc hlt];exact iV.lit da.len (dJ.refl _) _ _ (by simpa using tK n hlt) _ rfl (by simp [maxLen])⟩
   · have hg:128 ≤ n:=by omega
     have HI:=Lib.hid (fun w=>ih (n / 128) w (by omega) (by omega))
     have hlen9:=n7 (n / 128) (by omega)
     clear ih
     go_enter Tryz.func159,Tryz.ntmps159
     go_wp2_with fail
     have e1:((n:Int) / 128) = ((n / 128:Nat):Int):=by omega
     rw [e1]
     clear e1
     refine (HI.out _).mono ?_
     rintro e w2 ⟨v2,rfl,hown2⟩
     have hown:iV 5 1 encB w w2 (.slice (some ⟨w.heap.size,0,none⟩) 1 1) [UInt8.ofNat (128 + n % 128)]:=
       (iV.lit da.len (dJ.refl w) _ _ (by simp only [List.flatMap_cons,List.flatMap_nil,List.append_nil];rw [vP,Int.add_comm]) _ rfl (by simp [maxLen])).extend hown2.ext
     have hs2:=hown2.sl da
     clear hown2 HI
     go_wp2_with (at_builtin;refine fS rfl _ _ 43 rfl KA da w _ (iR (n / 128)) _ _ rfl rfl hown hs2 ?_ ?_ ?_)
     · (first|omega|(simp;omega)|(unfold maxLen;omega)|(unfold maxLen;simp;omega))
     · (first|omega|(simp;omega)|(unfold maxLen;omega)|(unfold maxLen;simp;omega))
     · intro v3 w3 r HR hown3 _ _
       have HR':Hid (r = iR n):=Lib.hid (by rw [pf hlt];simpa using HR.out)
       go_wp2
       go_ret
       exact ⟨_,rfl,by rw [← HR'.out];exact hown3⟩
theorem yw (vl:Value) (ns:List Int) (w:World) (hl:Sl 1 Ki w vl ns) (hb:ns.length ≤ 7036874417766)
   (hok:∀ n ∈ ns,fC n):Calls Tryz.prog 160 #[vl] w (td 5 1 encB w (ns.flatMap g8)):=by
 obtain ⟨a,c,b,o,rfl,h1,h2,h3,h4⟩:=hl.openI
 clear h1 h2 hl
 go_enter Tryz.func160,Tryz.ntmps160
 go_wp2
 go_loopw [3,4] (fun v i wr=>∃ k:Nat,k ≤ ns.length ∧ i = .int .i64 k ∧ iV 5 1 encB w wr v ((ns.take k).flatMap g8)) (fun _ i _=>ns.length - (intOf i).toNat)
 case atStart=>exact ⟨0,Nat.zero_le _,rfl,iV.nil (dJ.refl _)⟩
 case round=>
   obtain ⟨j,hj,rfl,hown⟩:=hrel
   by_cases hjt:j < ns.length
   · obtain rfl:=h3 (by omega)
     have hc:=hown.ext.cell (h4 j hjt)
     obtain ⟨g1,g2⟩:=hok ns[j] (by simp)
     have hs:=Lib.hid (ib ns j hjt)
     have hlen:=pU (ns.take j) (fun n hn=>hok n (List.mem_of_mem_take hn))
     have hlj:(ns.take j).length ≤ j:=List.length_take_le _ _
     have hl9:=vQ ns[j] (by omega)
     generalize hx:ns[j] = x at *
     have HX:=Lib.hid hx
     obtain ⟨m,rfl⟩:=Int.eq_ofNat_of_zero_le g1
     clear h3 h4 hx
     go_wp2_with fail
     refine (tL _ _ _ (Nat.le_refl _) (by omega)).mono ?_
     rintro e w2 ⟨v2,rfl,hown2⟩
     have hown1:=hown.extend hown2.ext
     have hs2:=hown2.sl da
     clear hown hown2 hc
     generalize hL:(ns.take j).flatMap g8 = L at *
     have HL:=Lib.hid hL
     clear hL
     have hl9':(iR m).length ≤ 9:=hl9
     clear hl9
     go_wp2_with (at_builtin;refine fS rfl _ _ 43 rfl KA da w _ _ _ _ rfl rfl hown1 hs2 ?_ ?_ ?_)
     · (first|omega|(simp;omega)|(unfold maxLen;omega)|(unfold maxLen;simp;omega))
     · (first|omega|(simp;omega)|(unfold maxLen;omega)|(unfold maxLen;simp;omega))
     · intro v3 w3 r HR hown3 _ _
       clear hown1
       go_wp2
       go_roundw
       case rel=>exact ⟨j + 1,by omega,by go_num,by rw [hs.out,List.flatMap_append,HL.out,show L ++ List.flatMap g8 [(m:Int)] = r by simp [HR.out,g8]];exact hown3⟩
       case measure=>simp [intOf];omega
   · have HT:=Lib.hid (show ns.take j = ns from List.take_of_length_le (by omega))
     go_wp2
     go_ret
     rw [HT.out] at hown
     exact ⟨_,rfl,hown⟩
theorem EN (v vl:Value) (l:List UInt8) (ss:List ByteArray) (w:World) (hv:Bs w v l) (hl:Sl 1 Lw w vl ss) (hb:l.length + (ss.flatMap fq).length ≤ 7036874417766) :
   Calls Tryz.prog 210 #[v,vl] w (td 5 1 encB w (l ++ ss.flatMap fq)):=by
 obtain ⟨a,c,b,o,rfl,h1,h2,h3,h4⟩:=hl.openS
 have h5:=pE h1 h2
 clear h1 h2 hl
 go_enter Tryz.func210,Tryz.ntmps210
 go_wp2_with (at_builtin;refine fS rfl _ _ 43 rfl KA da w [] l _ _ rfl rfl (iV.empty (dJ.refl _)) (hv.ext ((dJ.refl _).alloc _)) ?_ ?_ ?_)
 · (first|omega|(simp;omega)|(unfold maxLen;omega)|(unfold maxLen;simp;omega))
 · (first|omega|(simp;omega)|(unfold maxLen;omega)|(unfold maxLen;simp;omega))
 · intro v1 w1 r HR hown _ _
   have HR':Hid (r = l):=Lib.hid (by simpa using HR.out)
   clear HR
   go_wp2
   go_loopw [5,13] (fun v i wr=>∃ k:Nat,k ≤ ss.length ∧ i = .int .i64 k ∧ iV 5 1 encB w wr v (l ++ (ss.take k).flatMap fq)) (fun _ i _=>ss.length - (intOf i).toNat)
   case atStart=>exact ⟨0,Nat.zero_le _,rfl,by rw [← HR'.out];simpa using hown⟩
   case round=>
     obtain ⟨j,hj,rfl,hown⟩:=hrel
     by_cases hjt:j < ss.length
     · obtain rfl:=h3 (by omega)
       have hc:=hown.ext.cell (h4 j hjt)
       have hs:=Lib.hid (ib ss j hjt)
       have hlen:(l ++ (ss.take j).flatMap fq).length + (fq ss[j]).length ≤ 7036874417766:=by
         have h:(ss.take (j + 1) ++ ss.drop (j + 1)) = ss:=List.take_append_drop _ _
         rw [← h,hs.out,List.flatMap_append,List.flatMap_append] at hb
         simp at hb ⊢;omega
       have hsz:(fq ss[j]).length = (iR ss[j].size).length + ss[j].size:=by simp [fq]
       generalize ss[j] = s at *
       have HS:=Lib.hid hsz
       have hsz1:(l ++ (ss.take j).flatMap fq).length + ((iR s.size).length + s.size) ≤ 7036874417766:=by omega
       clear h3 h4 hlen hsz hv hb
       generalize hx:l ++ (ss.take j).flatMap fq = L at *
       have HX:=Lib.hid hx
       clear hx
       go_wp2_with fail
       refine (Aj _ _ _ w _ (by omega) (by omega) (by omega) hown).mono ?_
       rintro e w2 ⟨v2,rfl,hown2⟩
       have ht:Hid (((s.size:Int)).toNat = s.size):=Lib.hid (by omega)
       rw [ht.out] at hown2
       clear hown hc
       go_wp2_with (at_builtin;refine uM rfl _ _ 43 9 rfl KA zB Tryz.underlying9 w _ s _ rfl rfl hown2 ?_ ?_)
       · (first|omega|(simp;omega)|(unfold maxLen;omega)|(unfold maxLen;simp;omega))
       · intro v3 w3 r HR hown3 _
         clear hown2
         go_wp2
         go_roundw
         case rel=>exact ⟨j + 1,by omega,by go_num,by rw [hs.out,List.flatMap_append,← List.append_assoc,HX.out,show L ++ List.flatMap fq [s] = r by simp [HR.out,fq]];exact hown3⟩
         case measure=>simp [intOf];omega
     · have HT:=Lib.hid (show ss.take j = ss from List.take_of_length_le (by omega))
       go_wp2
       go_ret
       rw [HT.out] at hown
       exact ⟨_,rfl,hown⟩
abbrev yx (l:List UInt8):Ret:=.own 5 1 (l.map byteP)
theorem pV (l:List UInt8) (ns:List Int) (hb:l.length + 9 * ns.length ≤ 1000000000000) (hok:∀ n ∈ ns,fC n) :
   Fn Tryz.prog 249 [iw l,vK ns] (.tup2 (yx (l ++ ns.flatMap g8)) (.per (aq (.int .i64 0)))):=by
 refine ⟨⟨_,Tryz.func249,by kernel_rfl,by kernel_rfl⟩,fun N0 w vs _ ha=>?_⟩
 obtain ⟨v,u,rfl,h1,h2⟩:=Ag ha
 refine Calls.mono (KB v u l ns w (pO h1) (yj h2) (by omega) hok) ?_
 rintro e w' ⟨v',rfl,h⟩
 exact ⟨_,rfl,h.ext,_,_,rfl,ym da h,rfl⟩
theorem kR (l:List UInt8) (ss:List ByteArray) (hb:l.length + (ss.flatMap fq).length ≤ 1000000000000) :
   Fn Tryz.prog 210 [iw l,LC ss] (yx (l ++ ss.flatMap fq)):=by
 refine ⟨⟨_,Tryz.func210,by kernel_rfl,by kernel_rfl⟩,fun N0 w vs _ ha=>?_⟩
 obtain ⟨v,u,rfl,h1,h2⟩:=Ag ha
 refine Calls.mono (EN v u l ss w (pO h1) (yj h2) (by omega)) ?_
 rintro e w' ⟨v',rfl,h⟩
 exact ⟨_,rfl,h.ext,ym da h⟩
theorem IL (ns:List Int) (hb:ns.length ≤ 1000000000) (hok:∀ n ∈ ns,fC n):Fn Tryz.prog 160 [vK ns] (yx (ns.flatMap g8)):=by
 refine ⟨⟨_,Tryz.func160,by kernel_rfl,by kernel_rfl⟩,fun N0 w vs _ ha=>?_⟩
 obtain ⟨v,rfl,h1⟩:=LB ha
 refine Calls.mono (yw v ns w (yj h1) (by omega) hok) ?_
 rintro e w' ⟨v',rfl,h⟩
 exact ⟨_,rfl,h.ext,ym da h⟩
structure It where
 key:ByteArray
 rep:Int
 cnt:Int
 rank:Int
 prio:Int
 dead:Bool
 body:ByteArray
deriving DecidableEq
def encIt (x:It):List Value:=[.string x.key,.int .i64 x.rep,.int .i64 x.cnt,.int .i64 x.rank,.int .i64 x.prio,.bool x.dead,.string x.body]
def eu (s:ByteArray):Bool:=decide (1 ≤ s.size ∧ s.size ≤ 16)
def cI (r c:Int):Bool:=decide (1 ≤ r ∧ r ≤ 16 ∧ 1 ≤ c ∧ c ≤ 1099511627776)
def itR (x:It):Bool:=eu x.key && cI x.rep x.cnt && decide (1 ≤ x.rank ∧ x.rank ≤ 1099511627776 ∧ 0 ≤ x.prio ∧ x.prio ≤ 255 ∧ x.body.size ≤ 64 ∧ (x.dead = true → x.body.size = 0))
theorem EO:Dn 7 encIt:=⟨by decide,fun _=>rfl,fun x u hu=>by
 simp only [encIt,List.mem_cons,List.not_mem_nil,or_false] at hu
 rcases hu with rfl|rfl|rfl|rfl|rfl|rfl|rfl <;> rfl⟩
abbrev MZ (w:World) (v:Value) (l:List It):Prop:=Sl 7 encIt w v l
abbrev itP (x:It):List PV:=[aq (.string x.key),aq (.int .i64 x.rep),aq (.int .i64 x.cnt),aq (.int .i64 x.rank),aq (.int .i64 x.prio),aq (.bool x.dead),aq (.string x.body)]
abbrev uK (x:It):Cnt:=.per (bP (itP x))
abbrev MK (r c:Int):List PV:=[aq (.int .i64 r),aq (.int .i64 c)]
abbrev lZ (r c:Int):Cnt:=.per (bP (MK r c))
theorem fD {a b:Bool} (h:a = b):Cnt.per (aq (.bool a)) = .per (aq (.bool b)):=by rw [h]
theorem yz:(⟨#[]⟩:ByteArray).toList = []:=by rw [jV]
theorem KC (s:ByteArray):s.toList = [] ↔ s.size = 0:=by
 rw [jV,← List.length_eq_zero_iff,te]
theorem fY (s:ByteArray):Fn Tryz.prog 79 [sC s] (bO (eu s)):=by
 refine fi Tryz.func79 Tryz.ntmps79 ?_
 (refine wH ?_;(repeat' first|refine W2.mk ?_ ?_|refine W1.mk fun hc=>?_))
 refine aQ ?_
 refine cu (fD ?_)
 rw [eu,Bool.eq_iff_iff];simp;omega
theorem fZ (s:ByteArray):Fn Tryz.prog 110 [sC s] (bO (eu s)):=by
 refine fi Tryz.func110 Tryz.ntmps110 ?_
 (refine wH ?_;(repeat' first|refine W2.mk ?_ ?_|refine W1.mk fun hc=>?_))
 refine aQ ?_
 refine cu (fD ?_)
 rw [eu,Bool.eq_iff_iff];simp;omega
theorem eA (r c:Int):Fn Tryz.prog 151 [lZ r c] (bO (cI r c)):=by
 refine fi Tryz.func151 Tryz.ntmps151 ?_
 (refine wH ?_;(repeat' first|refine W2.mk ?_ ?_|refine W1.mk fun hc=>?_))
 refine aQ ?_
 refine cu (fD ?_)
 rw [cI,Bool.eq_iff_iff];simp;omega
theorem dZ (r c:Int):Fn Tryz.prog 111 [lZ r c] (bO (cI r c)):=by
 refine fi Tryz.func111 Tryz.ntmps111 ?_
 (refine wH ?_;(repeat' first|refine W2.mk ?_ ?_|refine W1.mk fun hc=>?_))
 refine aQ ?_
 refine cu (fD ?_)
 rw [cI,Bool.eq_iff_iff];simp;omega
theorem d0 (x:It):Fn Tryz.prog 119 [uK x] (bO (itR x)):=by
 refine fi Tryz.func119 Tryz.ntmps119 ?_
 (repeat' (first|refine cN ?_|refine bD ?_|refine cc ?_|refine cd ?_|refine cO ?_|refine bi ?_|refine db dX ?_|refine cL ?_|refine cM (by kernel_rfl) ?_|refine ce ?_|refine cg ?_|refine ci ?_|refine d8 ?_|refine d9 ?_|refine cj ?_|refine bF rfl ?_|(refine dv rfl rfl (fun hc=>?_) (fun hc=>?_) <;> (try rw [Bool.not_eq_true'] at hc) <;> (try rw [Bool.not_eq_false'] at hc) <;> (try first|rw [decide_eq_true_eq] at hc|rw [decide_eq_false_iff_not] at hc|rw [beq_iff_eq] at hc|rw [beq_eq_false_iff_ne] at hc|rw [bne_iff_ne] at hc|rw [bne_eq_false_iff_eq] at hc) <;> (repeat rw [List.length_map] at hc) <;> (try first|contradiction|(exfalso;omega)|(exfalso;simp [*] at hc;done)))|((first|apply aD rfl|apply aF rfl|apply aG rfl|apply aH rfl);focus (first|exact nY|(apply bx;(focus rfl);(first|apply ez rfl rfl rfl rfl rfl (jr rfl)|apply ez rfl rfl rfl rfl rfl rfl);intro g1 g2;(first|(apply az 20;(focus rfl);apply dW;(case hp=>exact ⟨rfl,rfl,rfl⟩);(case ho=>exact ⟨_,rfl⟩);(case' hf=>apply fY);(case hpl=>rfl);(case hg=>(repeat (first|exact GL.nil|(refine GL.cons ?_ ?_;focus (first|exact aU (aj rfl (by rw [g2];rfl))|exact aU (ai rfl (by rw [g2];rfl))|exact bc (ai rfl (by rw [g2];rfl))|exact bd (ai rfl (by rw [g2];rfl))|exact aU rfl|exact bc rfl|exact bd rfl)))));all_goals (first|assumption|omega|(simp;done)|(simp;omega)))|(apply az 20;(focus rfl);apply dW;(case hp=>exact ⟨rfl,rfl,rfl⟩);(case ho=>exact ⟨_,rfl⟩);(case' hf=>apply eA);(case hpl=>rfl);(case hg=>(repeat (first|exact GL.nil|(refine GL.cons ?_ ?_;focus (first|exact aU (aj rfl (by rw [g2];rfl))|exact aU (ai rfl (by rw [g2];rfl))|exact bc (ai rfl (by rw [g2];rfl))|exact bd (ai rfl (by rw [g2];rfl))|exact aU rfl|exact bc rfl|exact bd rfl)))));all_goals (first|assumption|omega|(simp;done)|(simp;omega)))))|(apply bx;(focus rfl);(first|apply jq rfl rfl rfl rfl rfl (jr rfl)|apply jq rfl rfl rfl rfl rfl rfl);intro g1 g2;(first|(apply az 20;(focus rfl);apply dW;(case hp=>exact ⟨rfl,rfl,rfl⟩);(case ho=>exact ⟨_,rfl⟩);(case' hf=>apply fY);(case hpl=>rfl);(case hg=>(repeat (first|exact GL.nil|(refine GL.cons ?_ ?_;focus (first|exact aU (aj rfl (by rw [g2];rfl))|exact aU (ai rfl (by rw [g2];rfl))|exact bc (ai rfl (by rw [g2];rfl))|exact bd (ai rfl (by rw [g2];rfl))|exact aU rfl|exact bc rfl|exact bd rfl)))));all_goals (first|assumption|omega|(simp;done)|(simp;omega)))|(apply az 20;(focus rfl);apply dW;(case hp=>exact ⟨rfl,rfl,rfl⟩);(case ho=>exact ⟨_,rfl⟩);(case' hf=>apply eA);(case hpl=>rfl);(case hg=>(repeat (first|exact GL.nil|(refine GL.cons ?_ ?_;focus (first|exact aU (aj rfl (by rw [g2];rfl))|exact aU (ai rfl (by rw [g2];rfl))|exact bc (ai rfl (by rw [g2];rfl))|exact bd (ai rfl (by rw [g2];rfl))|exact aU rfl|exact bc rfl|exact bd rfl)))));all_goals (first|assumption|omega|(simp;done)|(simp;omega)))))|(apply az 20;(focus rfl);first|(apply dW;(case hp=>exact ⟨rfl,rfl,rfl⟩);(case ho=>exact ⟨_,rfl⟩);(case' hf=>apply fY);(case hpl=>rfl);(case hg=>(repeat (first|exact GL.nil|(refine GL.cons ?_ ?_;focus (first|exact aU rfl|exact bc rfl|exact bX rfl rfl rfl|exact bd rfl|exact bZ rfl|exact bt rfl)))));all_goals (first|assumption|omega|(simp;done)|(simp;omega)))|(apply iu;(case hp=>exact ⟨rfl,rfl,rfl⟩);(case ho=>exact ⟨_,rfl⟩);(case' hf=>apply fY);(case hg=>(repeat (first|exact GL.nil|(refine GL.cons ?_ ?_;focus (first|exact aU rfl|exact bc rfl|exact bX rfl rfl rfl|exact bd rfl|exact bZ rfl|exact bt rfl)))));all_goals (first|assumption|omega|(simp;done)|(simp;omega)))|(apply gv;(case hp=>exact ⟨rfl,rfl,rfl⟩);(case ho=>exact ⟨_,rfl⟩);(case' hf=>apply fY);(case hg=>(repeat (first|exact GL.nil|(refine GL.cons ?_ ?_;focus (first|exact aU rfl|exact bc rfl|exact bX rfl rfl rfl|exact bd rfl|exact bZ rfl|exact bt rfl)))));all_goals (first|assumption|omega|(simp;done)|(simp;omega))))|(apply az 20;(focus rfl);first|(apply dW;(case hp=>exact ⟨rfl,rfl,rfl⟩);(case ho=>exact ⟨_,rfl⟩);(case' hf=>apply eA);(case hpl=>rfl);(case hg=>(repeat (first|exact GL.nil|(refine GL.cons ?_ ?_;focus (first|exact aU rfl|exact bc rfl|exact bX rfl rfl rfl|exact bd rfl|exact bZ rfl|exact bt rfl)))));all_goals (first|assumption|omega|(simp;done)|(simp;omega)))|(apply iu;(case hp=>exact ⟨rfl,rfl,rfl⟩);(case ho=>exact ⟨_,rfl⟩);(case' hf=>apply eA);(case hg=>(repeat (first|exact GL.nil|(refine GL.cons ?_ ?_;focus (first|exact aU rfl|exact bc rfl|exact bX rfl rfl rfl|exact bd rfl|exact bZ rfl|exact bt rfl)))));all_goals (first|assumption|omega|(simp;done)|(simp;omega)))|(apply gv;(case hp=>exact ⟨rfl,rfl,rfl⟩);(case ho=>exact ⟨_,rfl⟩);(case' hf=>apply eA);(case hg=>(repeat (first|exact GL.nil|(refine GL.cons ?_ ?_;focus (first|exact aU rfl|exact bc rfl|exact bX rfl rfl rfl|exact bd rfl|exact bZ rfl|exact bt rfl)))));all_goals (first|assumption|omega|(simp;done)|(simp;omega))))))))
 all_goals refine aQ ?_
 all_goals refine cu (fD ?_)
 all_goals have hs:x.body.toList = [] ↔ x.body.size = 0:=KC x.body
 all_goals have hn:=yz
 · grind [itR]
 · grind [itR]
 · grind [itR]
theorem ja (x:It):Fn Tryz.prog 58 [uK x] (bO (itR x)):=by
 refine fi Tryz.func58 Tryz.ntmps58 ?_
 (repeat' (first|refine cN ?_|refine bD ?_|refine cc ?_|refine cd ?_|refine cO ?_|refine bi ?_|refine db dX ?_|refine cL ?_|refine cM (by kernel_rfl) ?_|refine ce ?_|refine cg ?_|refine ci ?_|refine d8 ?_|refine d9 ?_|refine cj ?_|refine bF rfl ?_|(refine dv rfl rfl (fun hc=>?_) (fun hc=>?_) <;> (try rw [Bool.not_eq_true'] at hc) <;> (try rw [Bool.not_eq_false'] at hc) <;> (try first|rw [decide_eq_true_eq] at hc|rw [decide_eq_false_iff_not] at hc|rw [beq_iff_eq] at hc|rw [beq_eq_false_iff_ne] at hc|rw [bne_iff_ne] at hc|rw [bne_eq_false_iff_eq] at hc) <;> (repeat rw [List.length_map] at hc) <;> (try first|contradiction|(exfalso;omega)|(exfalso;simp [*] at hc;done)))|((first|apply aD rfl|apply aF rfl|apply aG rfl|apply aH rfl);focus (first|exact nY|(apply bx;(focus rfl);(first|apply ez rfl rfl rfl rfl rfl (jr rfl)|apply ez rfl rfl rfl rfl rfl rfl);intro g1 g2;(first|(apply az 20;(focus rfl);apply dW;(case hp=>exact ⟨rfl,rfl,rfl⟩);(case ho=>exact ⟨_,rfl⟩);(case' hf=>apply fZ);(case hpl=>rfl);(case hg=>(repeat (first|exact GL.nil|(refine GL.cons ?_ ?_;focus (first|exact aU (aj rfl (by rw [g2];rfl))|exact aU (ai rfl (by rw [g2];rfl))|exact bc (ai rfl (by rw [g2];rfl))|exact bd (ai rfl (by rw [g2];rfl))|exact aU rfl|exact bc rfl|exact bd rfl)))));all_goals (first|assumption|omega|(simp;done)|(simp;omega)))|(apply az 20;(focus rfl);apply dW;(case hp=>exact ⟨rfl,rfl,rfl⟩);(case ho=>exact ⟨_,rfl⟩);(case' hf=>apply dZ);(case hpl=>rfl);(case hg=>(repeat (first|exact GL.nil|(refine GL.cons ?_ ?_;focus (first|exact aU (aj rfl (by rw [g2];rfl))|exact aU (ai rfl (by rw [g2];rfl))|exact bc (ai rfl (by rw [g2];rfl))|exact bd (ai rfl (by rw [g2];rfl))|exact aU rfl|exact bc rfl|exact bd rfl)))));all_goals (first|assumption|omega|(simp;done)|(simp;omega)))))|(apply bx;(focus rfl);(first|apply jq rfl rfl rfl rfl rfl (jr rfl)|apply jq rfl rfl rfl rfl rfl rfl);intro g1 g2;(first|(apply az 20;(focus rfl);apply dW;(case hp=>exact ⟨rfl,rfl,rfl⟩);(case ho=>exact ⟨_,rfl⟩);(case' hf=>apply fZ);(case hpl=>rfl);(case hg=>(repeat (first|exact GL.nil|(refine GL.cons ?_ ?_;focus (first|exact aU (aj rfl (by rw [g2];rfl))|exact aU (ai rfl (by rw [g2];rfl))|exact bc (ai rfl (by rw [g2];rfl))|exact bd (ai rfl (by rw [g2];rfl))|exact aU rfl|exact bc rfl|exact bd rfl)))));all_goals (first|assumption|omega|(simp;done)|(simp;omega)))|(apply az 20;(focus rfl);apply dW;(case hp=>exact ⟨rfl,rfl,rfl⟩);(case ho=>exact ⟨_,rfl⟩);(case' hf=>apply dZ);(case hpl=>rfl);(case hg=>(repeat (first|exact GL.nil|(refine GL.cons ?_ ?_;focus (first|exact aU (aj rfl (by rw [g2];rfl))|exact aU (ai rfl (by rw [g2];rfl))|exact bc (ai rfl (by rw [g2];rfl))|exact bd (ai rfl (by rw [g2];rfl))|exact aU rfl|exact bc rfl|exact bd rfl)))));all_goals (first|assumption|omega|(simp;done)|(simp;omega)))))|(apply az 20;(focus rfl);first|(apply dW;(case hp=>exact ⟨rfl,rfl,rfl⟩);(case ho=>exact ⟨_,rfl⟩);(case' hf=>apply fZ);(case hpl=>rfl);(case hg=>(repeat (first|exact GL.nil|(refine GL.cons ?_ ?_;focus (first|exact aU rfl|exact bc rfl|exact bX rfl rfl rfl|exact bd rfl|exact bZ rfl|exact bt rfl)))));all_goals (first|assumption|omega|(simp;done)|(simp;omega)))|(apply iu;(case hp=>exact ⟨rfl,rfl,rfl⟩);(case ho=>exact ⟨_,rfl⟩);(case' hf=>apply fZ);(case hg=>(repeat (first|exact GL.nil|(refine GL.cons ?_ ?_;focus (first|exact aU rfl|exact bc rfl|exact bX rfl rfl rfl|exact bd rfl|exact bZ rfl|exact bt rfl)))));all_goals (first|assumption|omega|(simp;done)|(simp;omega)))|(apply gv;(case hp=>exact ⟨rfl,rfl,rfl⟩);(case ho=>exact ⟨_,rfl⟩);(case' hf=>apply fZ);(case hg=>(repeat (first|exact GL.nil|(refine GL.cons ?_ ?_;focus (first|exact aU rfl|exact bc rfl|exact bX rfl rfl rfl|exact bd rfl|exact bZ rfl|exact bt rfl)))));all_goals (first|assumption|omega|(simp;done)|(simp;omega))))|(apply az 20;(focus rfl);first|(apply dW;(case hp=>exact ⟨rfl,rfl,rfl⟩);(case ho=>exact ⟨_,rfl⟩);(case' hf=>apply dZ);(case hpl=>rfl);(case hg=>(repeat (first|exact GL.nil|(refine GL.cons ?_ ?_;focus (first|exact aU rfl|exact bc rfl|exact bX rfl rfl rfl|exact bd rfl|exact bZ rfl|exact bt rfl)))));all_goals (first|assumption|omega|(simp;done)|(simp;omega)))|(apply iu;(case hp=>exact ⟨rfl,rfl,rfl⟩);(case ho=>exact ⟨_,rfl⟩);(case' hf=>apply dZ);(case hg=>(repeat (first|exact GL.nil|(refine GL.cons ?_ ?_;focus (first|exact aU rfl|exact bc rfl|exact bX rfl rfl rfl|exact bd rfl|exact bZ rfl|exact bt rfl)))));all_goals (first|assumption|omega|(simp;done)|(simp;omega)))|(apply gv;(case hp=>exact ⟨rfl,rfl,rfl⟩);(case ho=>exact ⟨_,rfl⟩);(case' hf=>apply dZ);(case hg=>(repeat (first|exact GL.nil|(refine GL.cons ?_ ?_;focus (first|exact aU rfl|exact bc rfl|exact bX rfl rfl rfl|exact bd rfl|exact bZ rfl|exact bt rfl)))));all_goals (first|assumption|omega|(simp;done)|(simp;omega))))))))
 all_goals refine aQ ?_
 all_goals refine cu (fD ?_)
 all_goals grind [itR]
end Go.Proofs.YtembiemaiacdfaaGreat
