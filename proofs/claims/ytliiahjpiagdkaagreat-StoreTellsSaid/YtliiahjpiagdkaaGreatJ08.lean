/- Texts joined: Byt Key Varint VarintRef Var It Base Ic. -/
import Derived.Test.YtliiahjpiagdkaaGreatJ07
import Derived.Test.YtliiahjpiagdkaaGreatJ06
import Derived.Test.YtliiahjpiagdkaaGreatJ05
import Derived.Test.YtliiahjpiagdkaaGreatRows
import Derived.Test.YtliiahjpiagdkaaGreatJ01
import Derived.Outline
set_option maxRecDepth 10000
set_option maxHeartbeats 8000000
namespace Go.Proofs.YtliiahjpiagdkaaGreat
open Go.RowKit
section
end
section
end
def jg (n:Nat):List UInt8:=if n < 128 then [UInt8.ofNat n] else UInt8.ofNat (128 + n % 128) :: jg (n / 128)
theorem mQ {n:Nat} (h:n < 128):jg n = [UInt8.ofNat n]:=by rw [jg,if_pos h]
theorem vL {n:Nat} (h:¬ n < 128):jg n = UInt8.ofNat (128 + n % 128) :: jg (n / 128):=by rw [jg,if_neg h]
theorem Hf (k:Nat):∀ n,n < 128 ^ (k + 1) → (jg n).length ≤ k + 1:=by
 induction k with
 | zero=>intro n hn;rw [mQ (by simpa using hn)];simp
 | succ k ih=>
  intro n hn
  by_cases h:n < 128
  ·rw [mQ h];simp
  ·rw [vL h]
   have:=ih (n / 128) (by rw [Nat.div_lt_iff_lt_mul (by decide)];rw [← Nat.pow_succ];exact hn)
   simp;omega
theorem mR (n:Nat) (h:n ≤ 9223372036854775807):(jg n).length ≤ 9:=Hf 8 n (by omega)
theorem Hg:TI Tryz.prog 159 5 1 1:=TI.mk' Tryz.underlying159 (by kernel_rfl)
theorem zB:(Tryz.prog.info? 5).bind (·.zero) = some (.int .u8 0):=by kernel_rfl
theorem vM (m:Nat) (h:m < 128):encB (UInt8.ofNat m) = [.int .u8 (m:Int)]:=by
 unfold encB;rw [UInt8.toNat_ofNat'];congr 2;omega
theorem x9 (m:Nat):encB (UInt8.ofNat (128 + m % 128)) = [.int .u8 ((m:Int) % 128 + 128)]:=by
 unfold encB;rw [UInt8.toNat_ofNat'];congr 2;omega
theorem Cy (n0:Int) (v:Value) (l:List UInt8) (wB w:World) (h0:0 ≤ n0) (hn:n0 ≤ 9223372036854775807) (hl:l.length ≤ 70368744177664) (hv:js 5 1 encB wB w v l) :
 Calls Tryz.prog 244 #[v,.int .i64 n0] w (gG 5 1 encB wB (l ++ jg n0.toNat)):=by
 obtain ⟨n,rfl⟩:=Int.eq_ofNat_of_zero_le h0
 have hlen9:=mR n (by omega)
 have e0:((n:Int)).toNat = n:=by omega
 rw [e0]
 clear e0
 go_enter Tryz.func244,Tryz.ntmps244
 go_wp2
 go_loopw [0,1] (fun v' i wr=>∃ (m:Nat) (done:List UInt8),i = .int .i64 m ∧ m ≤ n ∧ js 5 1 encB wB wr v' (l ++ done) ∧ done.length ≤ 9 ∧ Hid (done ++ jg m = jg n)) (fun _ i _=>(intOf i).toNat)
 case atStart=>exact ⟨n,[],rfl,Nat.le_refl _,by simpa using hv,by simp,Lib.hid rfl⟩
 case round=>
  obtain ⟨m,done,rfl,hm,hown,hd,HD⟩:=hrel
  by_cases hlt:m < 128
  ·go_wp2_with (at_builtin;refine dP rfl _ _ 159 rfl Hg ca wB _ [UInt8.ofNat m] _ _ rfl rfl (hown.alloc _) (Sl.new1 (enc:=encB) ca.len _ _ _ _ (vM m hlt)) ?_ ?_ ?_)
   ·(first|omega|(simp;omega)|(unfold maxLen;omega)|(unfold maxLen;simp;omega))
   ·(first|omega|(simp;omega)|(unfold maxLen;omega)|(unfold maxLen;simp;omega))
   ·intro v' w2 r HR hown2 _ _
    go_wp2
    go_ret
    have h1:=HD.out
    rw [mQ hlt] at h1
    have e:l ++ jg n = r:=by rw [← h1];simp [HR.out]
    rw [e]
    exact ⟨_,rfl,hown2⟩
  ·have hg:128 ≤ m:=by omega
   go_wp2_with (at_builtin;refine dP rfl _ _ 159 rfl Hg ca wB _ [UInt8.ofNat (128 + m % 128)] _ _ rfl rfl (hown.alloc _) (Sl.new1 (enc:=encB) ca.len _ _ _ _ (x9 m)) ?_ ?_ ?_)
   ·(first|omega|(simp;omega)|(unfold maxLen;omega)|(unfold maxLen;simp;omega))
   ·(first|omega|(simp;omega)|(unfold maxLen;omega)|(unfold maxLen;simp;omega))
   ·intro v' w2 r HR hown2 _ _
    have h1:=HD.out
    rw [vL hlt] at h1
    have h2:(done ++ [UInt8.ofNat (128 + m % 128)]).length ≤ 9:=by
     have:=congrArg List.length h1
     simp at this ⊢;omega
    clear hown
    go_wp2
    go_roundw
    case rel=>exact ⟨m / 128,done ++ [UInt8.ofNat (128 + m % 128)],by go_num,by omega,by rw [show l ++ (done ++ [UInt8.ofNat (128 + m % 128)]) = r by simp [HR.out]];exact hown2,h2,Lib.hid (by simpa using h1)⟩
    case measure=>simp [intOf];omega
def jG (n:Int):List UInt8:=jg n.toNat
def k0 (n:Int):Prop:=0 ≤ n ∧ n ≤ 281474976710656
theorem ya (n:Int) (h:n ≤ 9223372036854775807):(jG n).length ≤ 9:=mR _ (by omega)
theorem jh (ns:List Int) (h:∀ n ∈ ns,k0 n):(ns.flatMap jG).length ≤ 9 * ns.length:=by
 induction ns with
 | nil=>simp
 | cons n ns ih=>
  have h1:=ya n (by have:=(h n (by simp)).2;omega)
  have h2:=ih (fun m hm=>h m (by simp [hm]))
  simp only [List.flatMap_cons,List.length_append,List.length_cons];omega
theorem NC (v vl:Value) (l:List UInt8) (ns:List Int) (w:World) (hv:Bs w v l) (hl:Sl 1 encI w vl ns) (hb:l.length + 9 * ns.length ≤ 70368744177664)
 (hok:∀ n ∈ ns,k0 n):Calls Tryz.prog 256 #[v,vl] w (Ce 5 1 encB w (l ++ ns.flatMap jG) (.int .i64 0)):=by
 obtain ⟨a,c,b,o,rfl,h1,h2,h3,h4⟩:=hl.openI
 have h5:=pj h1 h2
 clear h1 h2 hl
 go_enter Tryz.func256,Tryz.ntmps256
 go_wp2
 go_loop [13] (fun i=>∃ k:Nat,k ≤ ns.length ∧ i = .int .i64 k) (fun i=>ns.length - (intOf i).toNat)
 case atStart=>exact ⟨0,Nat.zero_le _,rfl⟩
 case round=>
  obtain ⟨k,hk,rfl⟩:=hrel
  by_cases hlt:k < ns.length
  ·obtain rfl:=h3 (by omega)
   have hc:=h4 k hlt
   obtain ⟨g1,g2⟩:=hok ns[k] (by simp)
   clear h3 h4 hok
   go_wp2
   go_round
   case rel=>exact ⟨k + 1,by omega,by go_num⟩
   case measure=>simp [intOf];omega
  ·go_wp2_with (at_builtin;refine dP rfl _ _ 159 rfl Hg ca w [] l _ _ rfl rfl (js.empty (bw.refl _)) (hv.ext ((bw.refl _).alloc _)) ?_ ?_ ?_)
   ·(first|omega|(simp;omega)|(unfold maxLen;omega)|(unfold maxLen;simp;omega))
   ·(first|omega|(simp;omega)|(unfold maxLen;omega)|(unfold maxLen;simp;omega))
   ·intro v1 w1 r HR hown _ _
    have HR':Hid (r = l):=Lib.hid (by simpa using HR.out)
    clear HR
    go_wp2
    go_loopw [8,29] (fun v i wr=>∃ k:Nat,k ≤ ns.length ∧ i = .int .i64 k ∧ js 5 1 encB w wr v (l ++ (ns.take k).flatMap jG)) (fun _ i _=>ns.length - (intOf i).toNat)
    case atStart=>exact ⟨0,Nat.zero_le _,rfl,by rw [← HR'.out];simpa using hown⟩
    case round=>
     obtain ⟨j,hj,rfl,hown⟩:=hrel
     by_cases hjt:j < ns.length
     ·obtain rfl:=h3 (by omega)
      have hc:=hown.ext.cell (h4 j hjt)
      obtain ⟨g1,g2⟩:=hok ns[j] (by simp)
      have hs:=Lib.hid (gF ns j hjt)
      have hlen:=jh (ns.take j) (fun n hn=>hok n (List.mem_of_mem_take hn))
      have hlj:(ns.take j).length ≤ j:=List.length_take_le _ _
      have hlen2:(l ++ (ns.take j).flatMap jG).length ≤ 70368744177664:=by rw [List.length_append];omega
      clear h3 h4 hlen hlj
      go_wp2_with fail
      refine (Cy _ _ _ w _ g1 (by omega) hlen2 hown).mono ?_
      rintro e w2 ⟨v2,rfl,hown2⟩
      have HO:=Lib.hid hown2
      clear hown hown2
      go_wp2
      go_roundw
      case rel=>exact ⟨j + 1,by omega,by go_num,by rw [hs.out,List.flatMap_append,← List.append_assoc];simpa [jG] using HO.out⟩
      case measure=>simp [intOf];omega
     ·have HT:=Lib.hid (show ns.take j = ns from List.take_of_length_le (by omega))
      go_wp2
      go_ret2
      rw [HT.out] at hown
      exact ⟨_,rfl,hown⟩
def dN (s:ByteArray):List UInt8:=jg s.size ++ s.data.toList
theorem oC (k:Nat):∀ (n:Nat) (w:World),n ≤ k → n ≤ 9223372036854775807 →
 Calls Tryz.prog 202 #[.int .i64 n] w (gG 5 1 encB w (jg n)):=by
 induction k with
 | zero=>
  intro n w hk hn
  obtain rfl:n = 0:=by omega
  go_enter Tryz.func202,Tryz.ntmps202
  go_wp2_with fail
  go_ret
  exact ⟨_,rfl,by rw [mQ (by decide)];exact js.lit ca.len (bw.refl _) _ _ (by simpa using vM 0 (by decide)) _ rfl (by simp [maxLen])⟩
 | succ k ih=>
  intro n w hk hn
  by_cases hlt:n < 128
  ·go_enter Tryz.func202,Tryz.ntmps202
   go_wp2_with fail
   go_ret
   exact ⟨_,rfl,by rw [mQ hlt];exact js.lit ca.len (bw.refl _) _ _ (by simpa using vM n hlt) _ rfl (by simp [maxLen])⟩
  ·have hg:128 ≤ n:=by omega
   have HI:=Lib.hid (fun w=>ih (n / 128) w (by omega) (by omega))
   have hlen9:=mR (n / 128) (by omega)
   clear ih
   go_enter Tryz.func202,Tryz.ntmps202
   go_wp2_with fail
   have e1:((n:Int) / 128) = ((n / 128:Nat):Int):=by omega
   rw [e1]
   clear e1
   refine (HI.out _).mono ?_
   rintro e w2 ⟨v2,rfl,hown2⟩
   have hown:js 5 1 encB w w2 (.slice (some ⟨w.heap.size,0,none⟩) 1 1) [UInt8.ofNat (128 + n % 128)]:=
    (js.lit ca.len (bw.refl w) _ _ (by simp only [List.flatMap_cons,List.flatMap_nil,List.append_nil];rw [x9,Int.add_comm]) _ rfl (by simp [maxLen])).extend hown2.ext
   have hs2:=hown2.sl ca
   clear hown2 HI
   go_wp2_with (at_builtin;refine dP rfl _ _ 159 rfl Hg ca w _ (jg (n / 128)) _ _ rfl rfl hown hs2 ?_ ?_ ?_)
   ·(first|omega|(simp;omega)|(unfold maxLen;omega)|(unfold maxLen;simp;omega))
   ·(first|omega|(simp;omega)|(unfold maxLen;omega)|(unfold maxLen;simp;omega))
   ·intro v3 w3 r HR hown3 _ _
    have HR':Hid (r = jg n):=Lib.hid (by rw [vL hlt];simpa using HR.out)
    go_wp2
    go_ret
    exact ⟨_,rfl,by rw [← HR'.out];exact hown3⟩
theorem rT (vl:Value) (ns:List Int) (w:World) (hl:Sl 1 encI w vl ns) (hb:ns.length ≤ 7036874417766)
 (hok:∀ n ∈ ns,k0 n):Calls Tryz.prog 203 #[vl] w (gG 5 1 encB w (ns.flatMap jG)):=by
 obtain ⟨a,c,b,o,rfl,h1,h2,h3,h4⟩:=hl.openI
 clear h1 h2 hl
 go_enter Tryz.func203,Tryz.ntmps203
 go_wp2
 go_loopw [3,4] (fun v i wr=>∃ k:Nat,k ≤ ns.length ∧ i = .int .i64 k ∧ js 5 1 encB w wr v ((ns.take k).flatMap jG)) (fun _ i _=>ns.length - (intOf i).toNat)
 case atStart=>exact ⟨0,Nat.zero_le _,rfl,js.nil (bw.refl _)⟩
 case round=>
  obtain ⟨j,hj,rfl,hown⟩:=hrel
  by_cases hjt:j < ns.length
  ·obtain rfl:=h3 (by omega)
   have hc:=hown.ext.cell (h4 j hjt)
   obtain ⟨g1,g2⟩:=hok ns[j] (by simp)
   have hs:=Lib.hid (gF ns j hjt)
   have hlen:=jh (ns.take j) (fun n hn=>hok n (List.mem_of_mem_take hn))
   have hlj:(ns.take j).length ≤ j:=List.length_take_le _ _
   have hl9:=ya ns[j] (by omega)
   generalize hx:ns[j] = x at *
   have HX:=Lib.hid hx
   obtain ⟨m,rfl⟩:=Int.eq_ofNat_of_zero_le g1
   clear h3 h4 hx
   go_wp2_with fail
   refine (oC _ _ _ (Nat.le_refl _) (by omega)).mono ?_
   rintro e w2 ⟨v2,rfl,hown2⟩
   have hown1:=hown.extend hown2.ext
   have hs2:=hown2.sl ca
   clear hown hown2 hc
   generalize hL:(ns.take j).flatMap jG = L at *
   have HL:=Lib.hid hL
   clear hL
   have hl9':(jg m).length ≤ 9:=hl9
   clear hl9
   go_wp2_with (at_builtin;refine dP rfl _ _ 159 rfl Hg ca w _ _ _ _ rfl rfl hown1 hs2 ?_ ?_ ?_)
   ·(first|omega|(simp;omega)|(unfold maxLen;omega)|(unfold maxLen;simp;omega))
   ·(first|omega|(simp;omega)|(unfold maxLen;omega)|(unfold maxLen;simp;omega))
   ·intro v3 w3 r HR hown3 _ _
    clear hown1
    go_wp2
    go_roundw
    case rel=>exact ⟨j + 1,by omega,by go_num,by rw [hs.out,List.flatMap_append,HL.out,show L ++ List.flatMap jG [(m:Int)] = r by simp [HR.out,jG]];exact hown3⟩
    case measure=>simp [intOf];omega
  ·have HT:=Lib.hid (show ns.take j = ns from List.take_of_length_le (by omega))
   go_wp2
   go_ret
   rw [HT.out] at hown
   exact ⟨_,rfl,hown⟩
theorem lQ (s:ByteArray) (w:World) (hb:s.size ≤ 70368744177664):Calls Tryz.prog 164 #[.string s] w (gG 5 1 encB w (dN s)):=by
 have hlen9:=mR s.size (by omega)
 go_enter Tryz.func164,Tryz.ntmps164
 go_wp2_with fail
 refine (oC _ _ _ (Nat.le_refl _) (by omega)).mono ?_
 rintro e w1 ⟨v1,rfl,hown1⟩
 go_wp2
 go_loopw [3,4] (fun v i wr=>∃ k:Nat,k ≤ s.size ∧ i = .int .i64 k ∧ js 5 1 encB w wr v (jg s.size ++ s.data.toList.take k)) (fun _ i _=>s.size - (intOf i).toNat)
 case atStart=>exact ⟨0,Nat.zero_le _,rfl,by simpa using hown1⟩
 case round=>
  obtain ⟨j,hj,rfl,hown⟩:=hrel
  by_cases hjt:j < s.size
  ·have hs:=Lib.hid (FJ s j hjt)
   have hlj:(s.data.toList.take j).length ≤ j:=List.length_take_le _ _
   have hL:(jg s.size ++ s.data.toList.take j).length ≤ 9 + j:=by rw [List.length_append];omega
   generalize hx:jg s.size ++ s.data.toList.take j = L at *
   have HX:=Lib.hid hx
   clear hx hlj hown1
   go_wp2_with (at_builtin;refine dP rfl _ _ 159 rfl Hg ca w _ [s[j]] _ _ rfl rfl (hown.alloc _) (Sl.new1 (enc:=encB) ca.len _ _ _ _ rfl) ?_ ?_ ?_)
   ·(first|omega|(simp;omega)|(unfold maxLen;omega)|(unfold maxLen;simp;omega))
   ·(first|omega|(simp;omega)|(unfold maxLen;omega)|(unfold maxLen;simp;omega))
   ·intro v3 w3 r HR hown3 _ _
    clear hown
    go_wp2
    go_roundw
    case rel=>exact ⟨j + 1,by omega,by go_num,by rw [hs.out,← List.append_assoc,HX.out,show L ++ [s[j]] = r by rw [HR.out]];exact hown3⟩
    case measure=>simp [intOf];omega
  ·have HT:=Lib.hid (KA s j (by omega))
   go_wp2
   go_ret
   rw [HT.out] at hown
   exact ⟨_,rfl,hown⟩
theorem rU (v vl:Value) (l:List UInt8) (ss:List ByteArray) (w:World) (hv:Bs w v l) (hl:Sl 1 encS w vl ss) (hb:l.length + (ss.flatMap dN).length ≤ 7036874417766) :
 Calls Tryz.prog 215 #[v,vl] w (gG 5 1 encB w (l ++ ss.flatMap dN)):=by
 obtain ⟨a,c,b,o,rfl,h1,h2,h3,h4⟩:=hl.openS
 have h5:=pj h1 h2
 clear h1 h2 hl
 go_enter Tryz.func215,Tryz.ntmps215
 go_wp2_with (at_builtin;refine dP rfl _ _ 159 rfl Hg ca w [] l _ _ rfl rfl (js.empty (bw.refl _)) (hv.ext ((bw.refl _).alloc _)) ?_ ?_ ?_)
 ·(first|omega|(simp;omega)|(unfold maxLen;omega)|(unfold maxLen;simp;omega))
 ·(first|omega|(simp;omega)|(unfold maxLen;omega)|(unfold maxLen;simp;omega))
 ·intro v1 w1 r HR hown _ _
  have HR':Hid (r = l):=Lib.hid (by simpa using HR.out)
  clear HR
  go_wp2
  go_loopw [5,13] (fun v i wr=>∃ k:Nat,k ≤ ss.length ∧ i = .int .i64 k ∧ js 5 1 encB w wr v (l ++ (ss.take k).flatMap dN)) (fun _ i _=>ss.length - (intOf i).toNat)
  case atStart=>exact ⟨0,Nat.zero_le _,rfl,by rw [← HR'.out];simpa using hown⟩
  case round=>
   obtain ⟨j,hj,rfl,hown⟩:=hrel
   by_cases hjt:j < ss.length
   ·obtain rfl:=h3 (by omega)
    have hc:=hown.ext.cell (h4 j hjt)
    have hs:=Lib.hid (gF ss j hjt)
    have hlen:(l ++ (ss.take j).flatMap dN).length + (dN ss[j]).length ≤ 7036874417766:=by
     have h:(ss.take (j + 1) ++ ss.drop (j + 1)) = ss:=List.take_append_drop _ _
     rw [← h,hs.out,List.flatMap_append,List.flatMap_append] at hb
     simp at hb ⊢;omega
    have hsz:(dN ss[j]).length = (jg ss[j].size).length + ss[j].size:=by simp [dN]
    generalize ss[j] = s at *
    have HS:=Lib.hid hsz
    have hsz1:(l ++ (ss.take j).flatMap dN).length + ((jg s.size).length + s.size) ≤ 7036874417766:=by omega
    clear h3 h4 hlen hsz hv hb
    generalize hx:l ++ (ss.take j).flatMap dN = L at *
    have HX:=Lib.hid hx
    clear hx
    go_wp2_with fail
    refine (Cy _ _ _ w _ (by omega) (by omega) (by omega) hown).mono ?_
    rintro e w2 ⟨v2,rfl,hown2⟩
    have ht:Hid (((s.size:Int)).toNat = s.size):=Lib.hid (by omega)
    rw [ht.out] at hown2
    clear hown hc
    go_wp2_with (at_builtin;refine wY rfl _ _ 159 9 rfl Hg zB Tryz.underlying9 w _ s _ rfl rfl hown2 ?_ ?_)
    ·(first|omega|(simp;omega)|(unfold maxLen;omega)|(unfold maxLen;simp;omega))
    ·intro v3 w3 r HR hown3 _
     clear hown2
     go_wp2
     go_roundw
     case rel=>exact ⟨j + 1,by omega,by go_num,by rw [hs.out,List.flatMap_append,← List.append_assoc,HX.out,show L ++ List.flatMap dN [s] = r by simp [HR.out,dN]];exact hown3⟩
     case measure=>simp [intOf];omega
   ·have HT:=Lib.hid (show ss.take j = ss from List.take_of_length_le (by omega))
    go_wp2
    go_ret
    rw [HT.out] at hown
    exact ⟨_,rfl,hown⟩
structure It where
 key:ByteArray
 rep:Int
 cnt:Int
 rank:Int
 prio:Int
 dead:Bool
 body:ByteArray
deriving DecidableEq
def encIt (x:It):List Value:=[.string x.key,.int .i64 x.rep,.int .i64 x.cnt,.int .i64 x.rank,.int .i64 x.prio,.bool x.dead,.string x.body]
def pg (x:It):Value:=.agg #[.string x.key,.int .i64 x.rep,.int .i64 x.cnt,.int .i64 x.rank,.int .i64 x.prio,.bool x.dead,.string x.body]
def cY (s:ByteArray):Bool:=decide (1 ≤ s.size ∧ s.size ≤ 16)
def cC (r c:Int):Bool:=decide (1 ≤ r ∧ r ≤ 16 ∧ 1 ≤ c ∧ c ≤ 1099511627776)
def itR (x:It):Bool:=cY x.key && cC x.rep x.cnt && decide (1 ≤ x.rank ∧ x.rank ≤ 1099511627776 ∧ 0 ≤ x.prio ∧ x.prio ≤ 255 ∧ x.body.size ≤ 64 ∧ (x.dead = true → x.body.size = 0))
theorem yb:Dv 7 encIt:=⟨by decide,fun _=>rfl,fun x u hu=>by
 simp only [encIt,List.mem_cons,List.not_mem_nil,or_false] at hu
 rcases hu with rfl|rfl|rfl|rfl|rfl|rfl|rfl <;> rfl⟩
abbrev PO (w:World) (v:Value) (l:List It):Prop:=Sl 7 encIt w v l
abbrev itP (x:It):List PV:=[av (.string x.key),av (.int .i64 x.rep),av (.int .i64 x.cnt),av (.int .i64 x.rank),av (.int .i64 x.prio),av (.bool x.dead),av (.string x.body)]
abbrev wV (x:It):Cnt:=.per (bX (itP x))
abbrev Qr (r c:Int):List PV:=[av (.int .i64 r),av (.int .i64 c)]
abbrev qF (r c:Int):Cnt:=.per (bX (Qr r c))
theorem gm {a b:Bool} (h:a = b):Cnt.per (av (.bool a)) = .per (av (.bool b)):=by rw [h]
theorem AG:(⟨#[]⟩:ByteArray).toList = []:=by rw [fP]
theorem ND (s:ByteArray):s.toList = [] ↔ s.size = 0:=by
 rw [fP,← List.length_eq_zero_iff,vi]
theorem gb (s:ByteArray):Fn Tryz.prog 91 [sC s] (cw (cY s)):=by
 refine fi Tryz.func91 Tryz.ntmps91 ?_
 (refine wH ?_;repeat' first|apply ai|refine aj fun hc=>?_)
 refine aU ?_
 refine ct (gm ?_)
 rw [cY,Bool.eq_iff_iff];simp;omega
theorem fX (s:ByteArray):Fn Tryz.prog 101 [sC s] (cw (cY s)):=by
 refine fi Tryz.func101 Tryz.ntmps101 ?_
 (refine wH ?_;repeat' first|apply ai|refine aj fun hc=>?_)
 refine aU ?_
 refine ct (gm ?_)
 rw [cY,Bool.eq_iff_iff];simp;omega
theorem eH (r c:Int):Fn Tryz.prog 112 [qF r c] (cw (cC r c)):=by
 refine fi Tryz.func112 Tryz.ntmps112 ?_
 (refine wH ?_;repeat' first|apply ai|refine aj fun hc=>?_)
 refine aU ?_
 refine ct (gm ?_)
 rw [cC,Bool.eq_iff_iff];simp;omega
theorem eY (r c:Int):Fn Tryz.prog 114 [qF r c] (cw (cC r c)):=by
 refine fi Tryz.func114 Tryz.ntmps114 ?_
 (refine wH ?_;repeat' first|apply ai|refine aj fun hc=>?_)
 refine aU ?_
 refine ct (gm ?_)
 rw [cC,Bool.eq_iff_iff];simp;omega
theorem ny (x:It):Fn Tryz.prog 120 [wV x] (cw (itR x)):=by
 refine fi Tryz.func120 Tryz.ntmps120 ?_
 (repeat' (first|refine fS ?_|refine dx ?_|refine ei ?_|refine ej ?_|refine fT ?_|refine cO ?_|refine e9 gK ?_|refine fQ ?_|refine fR (by kernel_rfl) ?_|refine ep ?_|refine eu ?_|refine ev ?_|refine jb ?_|refine jc ?_|refine ew ?_|refine dy rfl ?_|(refine f9 rfl rfl (fun hc=>?_) (fun hc=>?_) <;> (try rw [Bool.not_eq_true'] at hc) <;> (try rw [Bool.not_eq_false'] at hc) <;> (try first|rw [decide_eq_true_eq] at hc|rw [decide_eq_false_iff_not] at hc|rw [beq_iff_eq] at hc|rw [beq_eq_false_iff_ne] at hc|rw [bne_iff_ne] at hc|rw [bne_eq_false_iff_eq] at hc) <;> (repeat rw [List.length_map] at hc) <;> (try first|contradiction|(exfalso;omega)|(exfalso;simp [*] at hc;done)))|((first|apply aO rfl|apply aP rfl|apply aQ rfl|apply aR rfl);focus (first|exact Ay|(apply b8;(focus rfl);(first|apply fa rfl rfl rfl rfl rfl (jP rfl)|apply fa rfl rfl rfl rfl rfl rfl);intro g1 g2;(first|(apply bn 20;(focus rfl);apply gJ;(case hp=>exact ⟨rfl,rfl,rfl⟩);(case ho=>exact ⟨_,rfl⟩);(case' hf=>apply gb);(case hpl=>rfl);(case hg=>(repeat (first|exact GL.nil|(refine GL.cons ?_ ?_;focus (first|exact bq (au rfl (by rw [g2];rfl))|exact bq (ak rfl (by rw [g2];rfl))|exact bI (ak rfl (by rw [g2];rfl))|exact bJ (ak rfl (by rw [g2];rfl))|exact bq rfl|exact bI rfl|exact bJ rfl)))));all_goals (first|assumption|omega|(simp;done)|(simp;omega)))|(apply bn 20;(focus rfl);apply gJ;(case hp=>exact ⟨rfl,rfl,rfl⟩);(case ho=>exact ⟨_,rfl⟩);(case' hf=>apply eH);(case hpl=>rfl);(case hg=>(repeat (first|exact GL.nil|(refine GL.cons ?_ ?_;focus (first|exact bq (au rfl (by rw [g2];rfl))|exact bq (ak rfl (by rw [g2];rfl))|exact bI (ak rfl (by rw [g2];rfl))|exact bJ (ak rfl (by rw [g2];rfl))|exact bq rfl|exact bI rfl|exact bJ rfl)))));all_goals (first|assumption|omega|(simp;done)|(simp;omega)))))|(apply b8;(focus rfl);(first|apply jO rfl rfl rfl rfl rfl (jP rfl)|apply jO rfl rfl rfl rfl rfl rfl);intro g1 g2;(first|(apply bn 20;(focus rfl);apply gJ;(case hp=>exact ⟨rfl,rfl,rfl⟩);(case ho=>exact ⟨_,rfl⟩);(case' hf=>apply gb);(case hpl=>rfl);(case hg=>(repeat (first|exact GL.nil|(refine GL.cons ?_ ?_;focus (first|exact bq (au rfl (by rw [g2];rfl))|exact bq (ak rfl (by rw [g2];rfl))|exact bI (ak rfl (by rw [g2];rfl))|exact bJ (ak rfl (by rw [g2];rfl))|exact bq rfl|exact bI rfl|exact bJ rfl)))));all_goals (first|assumption|omega|(simp;done)|(simp;omega)))|(apply bn 20;(focus rfl);apply gJ;(case hp=>exact ⟨rfl,rfl,rfl⟩);(case ho=>exact ⟨_,rfl⟩);(case' hf=>apply eH);(case hpl=>rfl);(case hg=>(repeat (first|exact GL.nil|(refine GL.cons ?_ ?_;focus (first|exact bq (au rfl (by rw [g2];rfl))|exact bq (ak rfl (by rw [g2];rfl))|exact bI (ak rfl (by rw [g2];rfl))|exact bJ (ak rfl (by rw [g2];rfl))|exact bq rfl|exact bI rfl|exact bJ rfl)))));all_goals (first|assumption|omega|(simp;done)|(simp;omega)))))|(apply bn 20;(focus rfl);first|(apply gJ;(case hp=>exact ⟨rfl,rfl,rfl⟩);(case ho=>exact ⟨_,rfl⟩);(case' hf=>apply gb);(case hpl=>rfl);(case hg=>(repeat (first|exact GL.nil|(refine GL.cons ?_ ?_;focus (first|exact bq rfl|exact bI rfl|exact cP rfl rfl rfl|exact bJ rfl|exact cQ rfl|exact ce rfl)))));all_goals (first|assumption|omega|(simp;done)|(simp;omega)))|(apply jd;(case hp=>exact ⟨rfl,rfl,rfl⟩);(case ho=>exact ⟨_,rfl⟩);(case' hf=>apply gb);(case hg=>(repeat (first|exact GL.nil|(refine GL.cons ?_ ?_;focus (first|exact bq rfl|exact bI rfl|exact cP rfl rfl rfl|exact bJ rfl|exact cQ rfl|exact ce rfl)))));all_goals (first|assumption|omega|(simp;done)|(simp;omega)))|(apply ii;(case hp=>exact ⟨rfl,rfl,rfl⟩);(case ho=>exact ⟨_,rfl⟩);(case' hf=>apply gb);(case hg=>(repeat (first|exact GL.nil|(refine GL.cons ?_ ?_;focus (first|exact bq rfl|exact bI rfl|exact cP rfl rfl rfl|exact bJ rfl|exact cQ rfl|exact ce rfl)))));all_goals (first|assumption|omega|(simp;done)|(simp;omega))))|(apply bn 20;(focus rfl);first|(apply gJ;(case hp=>exact ⟨rfl,rfl,rfl⟩);(case ho=>exact ⟨_,rfl⟩);(case' hf=>apply eH);(case hpl=>rfl);(case hg=>(repeat (first|exact GL.nil|(refine GL.cons ?_ ?_;focus (first|exact bq rfl|exact bI rfl|exact cP rfl rfl rfl|exact bJ rfl|exact cQ rfl|exact ce rfl)))));all_goals (first|assumption|omega|(simp;done)|(simp;omega)))|(apply jd;(case hp=>exact ⟨rfl,rfl,rfl⟩);(case ho=>exact ⟨_,rfl⟩);(case' hf=>apply eH);(case hg=>(repeat (first|exact GL.nil|(refine GL.cons ?_ ?_;focus (first|exact bq rfl|exact bI rfl|exact cP rfl rfl rfl|exact bJ rfl|exact cQ rfl|exact ce rfl)))));all_goals (first|assumption|omega|(simp;done)|(simp;omega)))|(apply ii;(case hp=>exact ⟨rfl,rfl,rfl⟩);(case ho=>exact ⟨_,rfl⟩);(case' hf=>apply eH);(case hg=>(repeat (first|exact GL.nil|(refine GL.cons ?_ ?_;focus (first|exact bq rfl|exact bI rfl|exact cP rfl rfl rfl|exact bJ rfl|exact cQ rfl|exact ce rfl)))));all_goals (first|assumption|omega|(simp;done)|(simp;omega))))))))
 all_goals refine aU ?_
 all_goals refine ct (gm ?_)
 all_goals have hs:x.body.toList = [] ↔ x.body.size = 0:=ND x.body
 all_goals have hn:=AG
 ·grind [itR]
 ·grind [itR]
 ·grind [itR]
theorem lR (x:It):Fn Tryz.prog 96 [wV x] (cw (itR x)):=by
 refine fi Tryz.func96 Tryz.ntmps96 ?_
 (repeat' (first|refine fS ?_|refine dx ?_|refine ei ?_|refine ej ?_|refine fT ?_|refine cO ?_|refine e9 gK ?_|refine fQ ?_|refine fR (by kernel_rfl) ?_|refine ep ?_|refine eu ?_|refine ev ?_|refine jb ?_|refine jc ?_|refine ew ?_|refine dy rfl ?_|(refine f9 rfl rfl (fun hc=>?_) (fun hc=>?_) <;> (try rw [Bool.not_eq_true'] at hc) <;> (try rw [Bool.not_eq_false'] at hc) <;> (try first|rw [decide_eq_true_eq] at hc|rw [decide_eq_false_iff_not] at hc|rw [beq_iff_eq] at hc|rw [beq_eq_false_iff_ne] at hc|rw [bne_iff_ne] at hc|rw [bne_eq_false_iff_eq] at hc) <;> (repeat rw [List.length_map] at hc) <;> (try first|contradiction|(exfalso;omega)|(exfalso;simp [*] at hc;done)))|((first|apply aO rfl|apply aP rfl|apply aQ rfl|apply aR rfl);focus (first|exact Ay|(apply b8;(focus rfl);(first|apply fa rfl rfl rfl rfl rfl (jP rfl)|apply fa rfl rfl rfl rfl rfl rfl);intro g1 g2;(first|(apply bn 20;(focus rfl);apply gJ;(case hp=>exact ⟨rfl,rfl,rfl⟩);(case ho=>exact ⟨_,rfl⟩);(case' hf=>apply fX);(case hpl=>rfl);(case hg=>(repeat (first|exact GL.nil|(refine GL.cons ?_ ?_;focus (first|exact bq (au rfl (by rw [g2];rfl))|exact bq (ak rfl (by rw [g2];rfl))|exact bI (ak rfl (by rw [g2];rfl))|exact bJ (ak rfl (by rw [g2];rfl))|exact bq rfl|exact bI rfl|exact bJ rfl)))));all_goals (first|assumption|omega|(simp;done)|(simp;omega)))|(apply bn 20;(focus rfl);apply gJ;(case hp=>exact ⟨rfl,rfl,rfl⟩);(case ho=>exact ⟨_,rfl⟩);(case' hf=>apply eY);(case hpl=>rfl);(case hg=>(repeat (first|exact GL.nil|(refine GL.cons ?_ ?_;focus (first|exact bq (au rfl (by rw [g2];rfl))|exact bq (ak rfl (by rw [g2];rfl))|exact bI (ak rfl (by rw [g2];rfl))|exact bJ (ak rfl (by rw [g2];rfl))|exact bq rfl|exact bI rfl|exact bJ rfl)))));all_goals (first|assumption|omega|(simp;done)|(simp;omega)))))|(apply b8;(focus rfl);(first|apply jO rfl rfl rfl rfl rfl (jP rfl)|apply jO rfl rfl rfl rfl rfl rfl);intro g1 g2;(first|(apply bn 20;(focus rfl);apply gJ;(case hp=>exact ⟨rfl,rfl,rfl⟩);(case ho=>exact ⟨_,rfl⟩);(case' hf=>apply fX);(case hpl=>rfl);(case hg=>(repeat (first|exact GL.nil|(refine GL.cons ?_ ?_;focus (first|exact bq (au rfl (by rw [g2];rfl))|exact bq (ak rfl (by rw [g2];rfl))|exact bI (ak rfl (by rw [g2];rfl))|exact bJ (ak rfl (by rw [g2];rfl))|exact bq rfl|exact bI rfl|exact bJ rfl)))));all_goals (first|assumption|omega|(simp;done)|(simp;omega)))|(apply bn 20;(focus rfl);apply gJ;(case hp=>exact ⟨rfl,rfl,rfl⟩);(case ho=>exact ⟨_,rfl⟩);(case' hf=>apply eY);(case hpl=>rfl);(case hg=>(repeat (first|exact GL.nil|(refine GL.cons ?_ ?_;focus (first|exact bq (au rfl (by rw [g2];rfl))|exact bq (ak rfl (by rw [g2];rfl))|exact bI (ak rfl (by rw [g2];rfl))|exact bJ (ak rfl (by rw [g2];rfl))|exact bq rfl|exact bI rfl|exact bJ rfl)))));all_goals (first|assumption|omega|(simp;done)|(simp;omega)))))|(apply bn 20;(focus rfl);first|(apply gJ;(case hp=>exact ⟨rfl,rfl,rfl⟩);(case ho=>exact ⟨_,rfl⟩);(case' hf=>apply fX);(case hpl=>rfl);(case hg=>(repeat (first|exact GL.nil|(refine GL.cons ?_ ?_;focus (first|exact bq rfl|exact bI rfl|exact cP rfl rfl rfl|exact bJ rfl|exact cQ rfl|exact ce rfl)))));all_goals (first|assumption|omega|(simp;done)|(simp;omega)))|(apply jd;(case hp=>exact ⟨rfl,rfl,rfl⟩);(case ho=>exact ⟨_,rfl⟩);(case' hf=>apply fX);(case hg=>(repeat (first|exact GL.nil|(refine GL.cons ?_ ?_;focus (first|exact bq rfl|exact bI rfl|exact cP rfl rfl rfl|exact bJ rfl|exact cQ rfl|exact ce rfl)))));all_goals (first|assumption|omega|(simp;done)|(simp;omega)))|(apply ii;(case hp=>exact ⟨rfl,rfl,rfl⟩);(case ho=>exact ⟨_,rfl⟩);(case' hf=>apply fX);(case hg=>(repeat (first|exact GL.nil|(refine GL.cons ?_ ?_;focus (first|exact bq rfl|exact bI rfl|exact cP rfl rfl rfl|exact bJ rfl|exact cQ rfl|exact ce rfl)))));all_goals (first|assumption|omega|(simp;done)|(simp;omega))))|(apply bn 20;(focus rfl);first|(apply gJ;(case hp=>exact ⟨rfl,rfl,rfl⟩);(case ho=>exact ⟨_,rfl⟩);(case' hf=>apply eY);(case hpl=>rfl);(case hg=>(repeat (first|exact GL.nil|(refine GL.cons ?_ ?_;focus (first|exact bq rfl|exact bI rfl|exact cP rfl rfl rfl|exact bJ rfl|exact cQ rfl|exact ce rfl)))));all_goals (first|assumption|omega|(simp;done)|(simp;omega)))|(apply jd;(case hp=>exact ⟨rfl,rfl,rfl⟩);(case ho=>exact ⟨_,rfl⟩);(case' hf=>apply eY);(case hg=>(repeat (first|exact GL.nil|(refine GL.cons ?_ ?_;focus (first|exact bq rfl|exact bI rfl|exact cP rfl rfl rfl|exact bJ rfl|exact cQ rfl|exact ce rfl)))));all_goals (first|assumption|omega|(simp;done)|(simp;omega)))|(apply ii;(case hp=>exact ⟨rfl,rfl,rfl⟩);(case ho=>exact ⟨_,rfl⟩);(case' hf=>apply eY);(case hg=>(repeat (first|exact GL.nil|(refine GL.cons ?_ ?_;focus (first|exact bq rfl|exact bI rfl|exact cP rfl rfl rfl|exact bJ rfl|exact cQ rfl|exact ce rfl)))));all_goals (first|assumption|omega|(simp;done)|(simp;omega))))))))
 all_goals refine aU ?_
 all_goals refine ct (gm ?_)
 all_goals grind [itR]
def yc (x:It):List Int:=[x.rep,x.cnt,x.rank,x.prio,if x.dead then 1 else 0]
theorem Hh {x:It} (h:itR x = true):(∀ n ∈ yc x,k0 n) ∧ x.body.size ≤ 64 ∧ 1 ≤ x.key.size ∧ x.key.size ≤ 16:=by
 simp only [itR,cY,cC,Bool.and_eq_true,decide_eq_true_eq] at h
 obtain ⟨⟨h1,h2⟩,h3⟩:=h
 refine ⟨?_,by omega,by omega,by omega⟩
 intro n hn
 simp only [yc,List.mem_cons,List.not_mem_nil,or_false] at hn
 unfold k0
 rcases hn with rfl|rfl|rfl|rfl|rfl
 ·omega
 ·omega
 ·omega
 ·omega
 ·split <;> omega
theorem aJ {α:Type} (l:List α) (k:Nat) (h:k < l.length):l.take (k + 1) = l.take k ++ [l[k]]:=by rw [List.take_succ_eq_append_getElem h]
abbrev dC (l:List It):PV:=cD 7 (l.map itP)
abbrev eD (l:List It):Cnt:=.bor 7 (l.map itP)
end Go.Proofs.YtliiahjpiagdkaaGreat
