/- Texts joined: Rkq StM RgV AbsV SoV. -/
import Derived.Test.YtliiahjpiagdkaaGreatJ28
import Derived.Test.YtliiahjpiagdkaaGreatJ17
import Derived.Test.YtliiahjpiagdkaaGreatJ05
import Derived.Test.YtliiahjpiagdkaaGreatJ11
import Derived.Test.YtliiahjpiagdkaaGreatJ26
import Derived.Test.YtliiahjpiagdkaaGreatJ07
import Derived.Test.YtliiahjpiagdkaaGreatJ19
import Derived.Test.YtliiahjpiagdkaaGreatJ12
set_option maxRecDepth 10000
set_option maxHeartbeats 8000000
namespace Go.Proofs.YtliiahjpiagdkaaGreat
open Go.RowKit
section
theorem uZ (k:List Pc) (hl:k.length ≤ 1000000000):Fn Tryz.prog 146 [bV k] (.own 50 3 ((bB k).map rgP)):=by
 refine fi Tryz.func146 Tryz.ntmps146 ?_
 (refine w0 ?_;repeat' first|apply ai|refine aj fun hc=>?_)
 refine bZ (b7 3 700 50 3 rfl rfl) ?_
 refine an (X:=Nat) (fun z=>z ≤ k.length)
  (fun z=>ba [(0,bV k),(3,.row 700 0),(4,iC .i64 ((z:Nat):Int))] [(700,.row 50 3 ((bB (k.take z)).map rgP))]) (fun z=>k.length - z) 0 (Nat.zero_le _) ?_ ?_
 ·exact ae
 ·intro z hz
  by_cases hlt:z < k.length
  ·have hsn:bB (k.take (z + 1)) = bB (k.take z) ++ [k[z].rg]:=by unfold bB;rw [List.take_succ_eq_append_getElem hlt,List.map_append];rfl
   have hlk:(bB (k.take z)).length ≤ z:=by unfold bB;rw [List.length_map,List.length_take];omega
   generalize bB (k.take z) = A at *
   (refine w0 ?_;repeat' first|apply ai|refine aj fun hc=>?_|((first|apply aO rfl|apply aP rfl|apply aQ rfl|apply aR rfl);(focus ((try (apply b8;(focus rfl);apply ah rfl rfl rfl rfl rfl));first|((apply bn 5;(focus rfl);first|exact bg ⟨rfl,rfl,rfl⟩ rfl inferInstance inferInstance rfl rfl rfl rfl|exact bh ⟨rfl,rfl,rfl⟩ rfl inferInstance inferInstance rfl rfl rfl rfl))));refine w0 ?_))
   refine ⟨z + 1,hlt,by omega,ay (aN 700 701) (ay (aN 701 700) ?_)⟩
   rw [hsn]
   exact ae
  ·rw [List.take_of_length_le (show k.length ≤ z by omega)]
   generalize bB k = A at *
   (refine w0 ?_;repeat' first|apply ai|refine aj fun hc=>?_)
   refine aU ?_
   exact cI rfl rfl rfl
theorem BN (s:List Kn) (hs:pJ s):Fn Tryz.prog 100 [eM s] (k9 (ff ofR s)):=by
 have h:=te 1 NQ s [] hs.tot ⟨by simp,by simp⟩ (fun r _=>nX (aK s r) (aK [] r) (by have:=d6 s r;have:=hs.2;omega) (by simp [aK]))
 rw [uY,List.append_nil] at h
 generalize ff ofR s = R at *
 refine fi Tryz.func100 Tryz.ntmps100 ?_
 (refine az h ?_;repeat' first|apply ai|refine aj fun hc=>?_)
 refine aU ?_
 exact cI rfl rfl rfl
theorem BO (k:List Pc) (s:ByteArray) (hk:bS k) (hs:s.size ≤ 1000000000):Fn Tryz.prog 193 [bV k,sC s] (k9 (iW k s)):=by
 have hk1:=hk.1
 have hO:=BN (k.flatMap (iY s)) (hk.has s)
 rw [show ff ofR (k.flatMap (iY s)) = iW k s from rfl] at hO
 generalize iW k s = R at *
 refine fi Tryz.func193 Tryz.ntmps193 ?_
 (refine w0 ?_;repeat' first|apply ai|refine aj fun hc=>?_)
 refine bZ (b7 5 700 95 2 rfl rfl) ?_
 refine an (X:=Nat) (fun z=>z ≤ k.length)
  (fun z=>ba [(0,bV k),(1,sC s),(5,.row 700 0),(6,iC .i64 ((z:Nat):Int))] [(700,.row 95 2 (((k.take z).flatMap (iY s)).map CA))]) (fun z=>k.length - z) 0 (Nat.zero_le _) ?_ ?_
 ·exact ae
 ·intro z hz
  by_cases hlt:z < k.length
  ·have hsn:=pR (iY s) k z hlt
   have h1:=(pQ (iY s) k z).2
   have h2:=(hk.has s).1
   have h3:=fG Pc.set (List.getElem_mem hlt)
   have h4:=hk.2.1
   have c1:=mX k[z].rg s hs
   generalize (k.take z).flatMap (iY s) = A at *
   unfold iY at hsn
   clear hk
   cases c:aZ k[z].rg s with
   | true=>
    rw [c] at c1 hsn
    rw [if_pos rfl] at hsn
    (refine az c1 ?_;repeat' first|apply ai|refine aj fun hc=>?_|((first|apply aO rfl|apply aP rfl|apply aQ rfl|apply aR rfl);(focus ((try (apply b8;(focus rfl);apply ah rfl rfl rfl rfl rfl));first|((apply bn 5;(focus rfl);first|exact bg ⟨rfl,rfl,rfl⟩ rfl inferInstance inferInstance rfl rfl rfl rfl|exact bh ⟨rfl,rfl,rfl⟩ rfl inferInstance inferInstance rfl rfl rfl rfl))));refine az c1 ?_))
    refine ⟨z + 1,hlt,by omega,ay (aN 700 701) (ay (aN 701 700) ?_)⟩
    rw [show (k.take (z + 1)).flatMap (iY s) = _ from hsn]
    exact ae
   | false=>
    rw [c] at c1 hsn
    rw [if_neg (by simp),List.append_nil] at hsn
    (refine az c1 ?_;repeat' first|apply ai|refine aj fun hc=>?_|((first|apply aO rfl|apply aP rfl|apply aQ rfl|apply aR rfl);(focus ((try (apply b8;(focus rfl);apply ah rfl rfl rfl rfl rfl));first|((apply bn 5;(focus rfl);first|exact bg ⟨rfl,rfl,rfl⟩ rfl inferInstance inferInstance rfl rfl rfl rfl|exact bh ⟨rfl,rfl,rfl⟩ rfl inferInstance inferInstance rfl rfl rfl rfl))));refine az c1 ?_))
    refine ⟨z + 1,hlt,by omega,?_⟩
    rw [show (k.take (z + 1)).flatMap (iY s) = _ from hsn]
    exact ae
  ·rw [List.take_of_length_le (show k.length ≤ z by omega)]
   clear hk
   generalize k.flatMap (iY s) = A at *
   (refine az hO ?_;repeat' first|apply ai|refine aj fun hc=>?_)
   refine aU ?_
   exact cI rfl rfl rfl
abbrev Oj:Cnt:=.bor 3 []
theorem E3 (a b:List Pc) (s:ByteArray) (ha:bS a) (hb:bS b) (hs:s.size ≤ 1000000000):Fn Tryz.prog 148 [iC .i64 1,bV a,bV b,Oj,sC s] (k9 (iW (a ++ b) s)):=by
 have h1:=BO a s ha hs
 have h2:=BO b s hb hs
 have h3:=te 1 NQ (iW a s) (iW b s) (oW ha s).tot (oW hb s).tot (fun r _=>nX _ _ (by have:=d6 (iW a s) r;have:=(oW ha s).2;omega) (by have:=d6 (iW b s) r;have:=(oW hb s).2;omega))
 rw [CM] at h3
 generalize iW (a ++ b) s = R at *
 generalize iW a s = A at *
 generalize iW b s = B at *
 refine fi Tryz.func148 Tryz.ntmps148 ?_
 (refine lN h3 h1 h2 ?_;repeat' first|apply ai|refine aj fun hc=>?_)
 refine aU ?_
 exact cI rfl rfl rfl
end
section
variable {P:Program} {n t:Nat} {ops:Array Oper} {o:Oper} {S:St}
theorem E4 {ty e len:Nat} {d:TypeDesc} {x ix:Operand} {As:List PV} {A:PV} {i:Nat} {kk:IntKind} {z:Int} (hp:Pl n o t) (ho:o.op = .index ty x ix) (hT:P.underlying ty = some (.array len e)) (he:P.underlying e = some d) (hd:fV d = false) (hk:P.cellsOf e = 1)
 (hx:S.opd x = .per (bX As)) (hi:S.opd ix = iC kk z) (hz:z = (i:Int)) (hlt:i < len) (hA:As[i]? = some A):aw n P ops o (aA x ++ aA ix) (.per A) [] S:=
 aM hp fun C T g a w hR' hR=>by
  have h1:=aD (x:=x) hR' (fun k h=>by simp [h]) hR
  rw [hx] at h1
  have h2:=aV (x:=ix) hR' (fun k h=>by simp [h]) hR hi
  obtain ⟨vs,e1,e2,e3⟩:=h1
  obtain ⟨y,q1,q2,q3⟩:=e3 i A hA
  subst hz
  refine ⟨y,?_,q3⟩
  have hsz:(sizeOf e).run P w = .ok 1 w:=eT hk (by decide) w
  simp only [execOp,ho,e1,h2,Instr.index,asIntOf,Sem.run_bind,Sem.run_pure,Result.andThen_ok,run_underlying hT]
  rw [if_pos (by constructor <;> omega)]
  simp only [Sem.run_bind,hsz,Result.andThen_ok,part,mD he,hd,Bool.false_eq_true,if_false,Nat.mul_one,Int.toNat_natCast,q1,Sem.run_pure]
end
theorem JG (n x:Int):(if x > n then x else n) = max n x:=by
 by_cases h:x > n
 ·rw [if_pos h];omega
 ·rw [if_neg h];omega
section
theorem JH (l:List Rn) (hl:l.length ≤ 1000000000):Fn Tryz.prog 176 [.per (jH l)] (gy (lc l)):=by
 have h1:=(vU l hl).frz
 have hb:(ofR l).length ≤ 1000000000:=by have:=vQ l;omega
 unfold lc
 rcases CE (ofR l) with e|⟨l',y,e⟩
 ·rw [e] at h1 ⊢
  refine fi Tryz.func176 Tryz.ntmps176 ?_
  (refine az h1 ?_;repeat' first|apply ai|refine aj fun hc=>?_)
  refine aU ?_
  exact aH rfl rfl
 ·rw [e,mb]
  rw [e] at h1 hb
  have hlen:(((l' ++ [y]).length:Nat):Int) - 1 = (l'.length:Nat):=by simp
  have hlt:l'.length < (l' ++ [y]).length:=by simp
  have hget:(l' ++ [y])[l'.length]'hlt = y:=by simp
  generalize l' ++ [y] = L at *
  refine fi Tryz.func176 Tryz.ntmps176 ?_
  (refine bU hlen h1 ?_;repeat' first|apply ai|refine aj fun hc=>?_)
  refine aU ?_
  exact aH rfl (by rw [hget])
theorem E5 (s:List Kn) (id:Int) (hs:cR s):Fn Tryz.prog 131 [eM s,iC .i64 id] (gy (iK s id)):=by
 have a1:=nD id
 unfold iK
 by_cases c:1 ≤ id ∧ id ≤ 16
 ·rw [if_pos c]
  rw [decide_eq_true c] at a1
  obtain ⟨q,rfl⟩:∃ q:Nat,id = (q:Int) + 1:=⟨(id - 1).toNat,by omega⟩
  have hq2:((q:Int) + 1 - 1).toNat = q:=by omega
  rw [hq2]
  have a2:=vT s hs
  have a3:=JH (aK s q) (by have:=d6 s q;have:=hs.2;omega)
  have hA:((b6 s).map jH)[q]? = some (jH (aK s q)):=by rw [List.getElem?_map,b9 _ (by omega)];rfl
  have hlt:q < 16:=by omega
  have hk1:Tryz.prog.cellsOf 93 = 1:=by kernel_rfl
  clear hs
  generalize b6 s = T at *
  generalize aK s q = Z at *
  refine fi Tryz.func131 Tryz.ntmps131 ?_
  (refine jW (show (q:Int) + 1 - 1 = (q:Nat) by omega) a1 a2 a3 ?_;repeat' first|apply ai|refine aj fun hc=>?_|((first|apply aO rfl|apply aP rfl|apply aQ rfl|apply aR rfl);(focus ((try (apply b8;(focus rfl);apply ah rfl rfl rfl rfl rfl));first|((exact E4 ⟨rfl,rfl,rfl⟩ rfl Tryz.underlying212 Tryz.underlying93 rfl hk1 rfl rfl rfl hlt hA))));refine jW (show (q:Int) + 1 - 1 = (q:Nat) by omega) a1 a2 a3 ?_))
  refine aU ?_
  exact aH rfl rfl
 ·rw [if_neg c]
  rw [decide_eq_false c] at a1
  clear hs
  refine fi Tryz.func131 Tryz.ntmps131 ?_
  (refine az a1 ?_;repeat' first|apply ai|refine aj fun hc=>?_)
  refine aU ?_
  exact aH rfl rfl
theorem Da (k:List Pc) (id:Int) (hk:fH k):Fn Tryz.prog 80 [bV k,iC .i64 id] (gy (eG k id)):=by
 have hl0:=hk.1
 generalize hR:eG k id = R
 unfold eG at hR
 refine fi Tryz.func80 Tryz.ntmps80 ?_
 (refine w0 ?_;repeat' first|apply ai|refine aj fun hc=>?_)
 refine an (X:=Nat × Int) (fun x=>x.1 ≤ k.length ∧ (k.drop x.1).foldl (fun n p=>max n (iK p.set id)) x.2 = R) (fun x=>ba [(1,iC .i64 id),(5,iC .i64 x.2),(8,bV k),(9,iC .i64 (k.length:Nat)),(10,iC .i64 (x.1:Nat))] []) (fun x=>k.length - x.1) (0,0) ⟨Nat.zero_le _,by simpa using hR⟩ ?_ ?_
 ·exact ae
 ·rintro ⟨i,n⟩ ⟨h1,h2⟩
  simp only at h1 h2 ⊢
  by_cases hi:i < k.length
  ·rw [List.drop_eq_getElem_cons hi,List.foldl_cons] at h2
   have a1:=E5 k[i].set id (hk.at hi)
   have hm:=JG n (iK k[i].set id)
   generalize iK k[i].set id = x at *
   generalize max n x = n' at *
   clear hk hR
   (refine az a1 ?_;repeat' first|apply ai|refine aj fun hc=>?_|((first|apply aO rfl|apply aP rfl|apply aQ rfl|apply aR rfl);(focus ((try (apply b8;(focus rfl);apply ah rfl rfl rfl rfl rfl));first|((exact mV ⟨rfl,rfl,rfl⟩ rfl rfl rfl hm))));refine az a1 ?_))
   refine ⟨(i + 1,n'),⟨by simp only;omega,h2⟩,by simp only;omega,?_⟩
   exact ae
  ·rw [List.drop_of_length_le (by omega)] at h2
   have h2:n = R:=h2
   subst h2
   clear hk hR
   (refine w0 ?_;repeat' first|apply ai|refine aj fun hc=>?_)
   refine aU ?_
   exact aH rfl rfl
end
end Go.Proofs.YtliiahjpiagdkaaGreat
namespace Go.Proofs.YtliiahjpiagdkaaGreat
open Go.RowKit Go.Shelf
abbrev BRg:={r:Rg // r.lo.size ≤ 1000000000000}
instance:Inhabited BRg:=⟨⟨⟨⟨#[]⟩,⟨#[]⟩,false⟩,by decide⟩⟩
def nZ (x y:BRg):Int:=bu x.1.lo y.1.lo
theorem tn:Sort.SWO (ltOf nZ) where
 irrefl x:=by unfold ltOf nZ;rw [rZ];rfl
 trans x y z h1 h2:=by
  unfold ltOf nZ at *
  rw [decide_eq_true_eq,dz] at *
  grind
 ntrans x y z h1 h2:=by
  unfold ltOf nZ at *
  rw [decide_eq_false_iff_not,dz] at *
  grind
def tt (l:List Rg):List Rg:=if h:∀ r ∈ l,r.lo.size ≤ 1000000000000 then (jf nZ (l.pmap Subtype.mk h)).map Subtype.val else l
theorem BQ {l:List Rg} (h:∀ r ∈ l,r.lo.size ≤ 1000000000000):(tt l).Perm l ∧ (tt l).Pairwise (fun x y=>x.lo ≤ y.lo):=by
 unfold tt
 rw [dif_pos h]
 obtain ⟨h1,h2⟩:=gL tn (l.pmap Subtype.mk h)
 refine ⟨?_,?_⟩
 ·have:=h1.map Subtype.val
  rwa [List.map_pmap,List.pmap_eq_map,List.map_id'] at this
 ·rw [List.pairwise_map]
  refine h2.imp fun {x y} q=>?_
  unfold ltOf nZ at q
  rw [decide_eq_false_iff_not,dz] at q
  grind
theorem zl {l:List Rg} (h:dr l):l.Pairwise (fun x y=>x.lo < y.lo):=by
 have key:∀ j (hj:j < l.length) i (hij:i < j),l[i].lo < l[j].lo:=by
  intro j
  induction j with
  | zero=>intro _ i hij;omega
  | succ j ih=>
   intro hj i hij
   obtain ⟨a1,a2⟩:=h (j + 1) hj
   obtain ⟨b1,_⟩:=h j (by omega)
   have c:=a2 (by omega)
   simp only [Nat.add_sub_cancel] at c
   have d:=fZ b1
   rw [c.1] at d
   have d:l[j].lo < l[j].hi:=by simpa using d
   have e:=c.2
   rw [dz] at e
   rcases Nat.lt_or_ge i j with q|q
   ·have:=ih (by omega) i q
    grind
   ·obtain rfl:i = j:=by omega
    grind
 rw [List.pairwise_iff_getElem]
 exact fun i j hi hj hij=>key j hj i hij
theorem JI {l:List Rg} (h:dr l) (hs:∀ r ∈ l,r.lo.size ≤ 1000000000000):tt l = l:=by
 obtain ⟨h1,h2⟩:=BQ hs
 have h3:=zl h
 have h4:l.Pairwise (fun x y=>x.lo ≤ y.lo):=h3.imp fun {x y} q=>by grind
 refine List.Perm.eq_of_pairwise ?_ h2 h4 h1
 intro a b ha hb hab hba
 have ha':=h1.mem_iff.1 ha
 have e:a.lo = b.lo:=by grind
 obtain ⟨i,hi,rfl⟩:=List.getElem_of_mem ha'
 obtain ⟨j,hj,rfl⟩:=List.getElem_of_mem hb
 rw [List.pairwise_iff_getElem] at h3
 rcases Nat.lt_trichotomy i j with q|q|q
 ·have:=h3 i j hi hj q;grind
 ·subst q;rfl
 ·have:=h3 j i hj hi q;grind
theorem Ol {l:List Rg} (h:dr l):gA l = l:=by
 have key:∀ k,k ≤ l.length → gA (l.take k) = l.take k:=by
  intro k
  induction k with
  | zero=>intro _;rfl
  | succ k ih=>
   intro hk
   have hk':k < l.length:=by omega
   rw [zf hk',ih (by omega),aJ l k hk']
   obtain ⟨_,a2⟩:=h k hk'
   rcases Nat.eq_zero_or_pos k with rfl|hp
   ·simp [zV]
   ·obtain ⟨m,rfl⟩:∃ m,k = m + 1:=⟨k - 1,by omega⟩
    have c:=a2 (by omega)
    simp only [Nat.add_sub_cancel] at c
    rw [aJ l m (by omega)]
    unfold zV
    simp only [List.reverse_append,List.reverse_cons,List.reverse_nil,List.nil_append,List.singleton_append,List.reverse_reverse]
    rw [if_pos c]
 have:=key l.length (Nat.le_refl _)
 rwa [List.take_length] at this
section
def so_rng_ren:Go.Shelf.Ren:=⟨fun|6=>64|14=>109|15=>110|20=>152|21=>153|22=>154|23=>155|24=>156|25=>157|26=>158|27=>159|28=>160|29=>161|46=>197|47=>198|48=>199|49=>200|50=>201|57=>223|n=>n,fun|0=>0|3=>3|4=>4|5=>5|9=>9|22=>22|24=>50|25=>114|39=>153|45=>192|46=>193|50=>137|53=>199|55=>51|66=>231|70=>234|76=>254|77=>255|n=>n,fun n=>n⟩
theorem Om:SlLaysF0.n6 Tryz.prog so_rng_ren:={ mixed:=by kernel_rfl,f6:=⟨Tryz.f64.name,by decide,Tryz.func64.trans (congrArg some (by kernel_rfl))⟩,f14:=⟨Tryz.f109.name,by decide,Tryz.func109.trans (congrArg some (by kernel_rfl))⟩,f15:=Tryz.func110.trans (congrArg some (by kernel_rfl)),f20:=⟨Tryz.f152.name,by decide,Tryz.func152.trans (congrArg some (by kernel_rfl))⟩,f21:=⟨Tryz.f153.name,by decide,Tryz.func153.trans (congrArg some (by kernel_rfl))⟩,f22:=⟨Tryz.f154.name,by decide,Tryz.func154.trans (congrArg some (by kernel_rfl))⟩,f23:=⟨Tryz.f155.name,by decide,Tryz.func155.trans (congrArg some (by kernel_rfl))⟩,f24:=⟨Tryz.f156.name,by decide,Tryz.func156.trans (congrArg some (by kernel_rfl))⟩,f25:=⟨Tryz.f157.name,by decide,Tryz.func157.trans (congrArg some (by kernel_rfl))⟩,f26:=⟨Tryz.f158.name,by decide,Tryz.func158.trans (congrArg some (by kernel_rfl))⟩,f27:=⟨Tryz.f159.name,by decide,Tryz.func159.trans (congrArg some (by kernel_rfl))⟩,f28:=Tryz.func160.trans (congrArg some (by kernel_rfl)),f29:=Tryz.func161.trans (congrArg some (by kernel_rfl)),f46:=⟨Tryz.f197.name,by decide,Tryz.func197.trans (congrArg some (by kernel_rfl))⟩,f47:=Tryz.func198.trans (congrArg some (by kernel_rfl)),f48:=Tryz.func199.trans (congrArg some (by kernel_rfl)),f49:=⟨Tryz.f200.name,by decide,Tryz.func200.trans (congrArg some (by kernel_rfl))⟩,f50:=⟨Tryz.f201.name,by decide,Tryz.func201.trans (congrArg some (by kernel_rfl))⟩,f57:=⟨Tryz.f223.name,by decide,Tryz.func223.trans (congrArg some (by kernel_rfl))⟩,t0:=Tryz.underlying0,a0:=Tryz.isAgg0,z0:=Tryz.sizeOf0,v0:=Tryz.zeroValue0,t3:=Tryz.underlying3,a3:=Tryz.isAgg3,z3:=Tryz.sizeOf3,v3:=Tryz.zeroValue3,t4:=Tryz.underlying4,a4:=Tryz.isAgg4,z4:=Tryz.sizeOf4,v4:=Tryz.zeroValue4,t5:=Tryz.underlying5,a5:=Tryz.isAgg5,z5:=Tryz.sizeOf5,v5:=Tryz.zeroValue5,t9:=Tryz.underlying9,a9:=Tryz.isAgg9,z9:=Tryz.sizeOf9,v9:=Tryz.zeroValue9,t22:=Tryz.underlying22,a22:=Tryz.isAgg22,z22:=Tryz.sizeOf22,v22:=Tryz.zeroValue22,t25:=Tryz.underlying114,a25:=Tryz.isAgg114,z25:=Tryz.sizeOf114,v25:=Tryz.zeroValue114,t39:=Tryz.underlying153,a39:=Tryz.isAgg153,z39:=Tryz.sizeOf153,v39:=Tryz.zeroValue153,t45:=Tryz.underlying192,a45:=Tryz.isAgg192,z45:=Tryz.sizeOf192,v45:=Tryz.zeroValue192,t46:=Tryz.underlying193,a46:=Tryz.isAgg193,z46:=Tryz.sizeOf193,v46:=Tryz.zeroValue193,t50:=Tryz.underlying137,a50:=Tryz.isAgg137,z50:=Tryz.sizeOf137,v50:=Tryz.zeroValue137,t53:=Tryz.underlying199,a53:=Tryz.isAgg199,z53:=Tryz.sizeOf199,v53:=Tryz.zeroValue199,t55:=Tryz.underlying51,a55:=Tryz.isAgg51,z55:=Tryz.sizeOf51,v55:=Tryz.zeroValue51,t66:=Tryz.underlying231,a66:=Tryz.isAgg231,z66:=Tryz.sizeOf231,v66:=Tryz.zeroValue231,t70:=Tryz.underlying234,a70:=Tryz.isAgg234,z70:=Tryz.sizeOf234,v70:=Tryz.zeroValue234,t76:=Tryz.underlying254,a76:=Tryz.isAgg254,z76:=Tryz.sizeOf254,v76:=Tryz.zeroValue254,t77:=Tryz.underlying255,a77:=Tryz.isAgg255,z77:=Tryz.sizeOf255,v77:=Tryz.zeroValue255 }
theorem JJ (x y:Rg) (hx:x.lo.size ≤ 1000000000000) (w:World) :
 Calls Tryz.prog 65 #[.agg #[.string x.lo,.string x.hi,.bool x.op],.agg #[.string y.lo,.string y.hi,.bool y.op]] w fun e w'=>e = .returned (.int .i64 (bu x.lo y.lo)) ∧ Gw w w':=by
 go_enter Tryz.func65,Tryz.ntmps65
 go_wp2_with fail
 refine (yk x.lo y.lo hx _).mono ?_
 rintro e w' ⟨rfl,hg⟩
 go_wp2
 go_ret
 exact ⟨rfl,Gw.trans (((Gw.refl w).alloc _).alloc _) hg⟩
theorem JK (l:List Rg) (h:∀ r ∈ l,r.lo.size ≤ 1000000000000) (hl:l.length ≤ 1000000000) :
 de Tryz.prog 64 [.row 1000 0,qz] [(1000,iL l)] .any [(1000,iL (tt l))]:=by
 have:=pE (e:=50) (k:=3) (G:=65) Om Tryz.isAgg50 Tryz.sizeOf50 (enc:=fun x:BRg=>[.string x.1.lo,.string x.1.hi,.bool x.1.op]) ⟨by decide,fun _=>rfl,fun x v hv=>by simp at hv;rcases hv with rfl|rfl|rfl <;> rfl⟩ tn (enters_of Tryz.func65 (by kernel_rfl) rfl)
  (fun x y w=>JJ x.1 y.1 x.2 w) (nA Tryz.func64 (by kernel_rfl) (by kernel_rfl)) (l.pmap Subtype.mk h) (by rw [List.length_pmap];omega)
 have e1:(l.pmap Subtype.mk h).map (eC fun x:BRg=>[Value.string x.1.lo,Value.string x.1.hi,Value.bool x.1.op]) = l.map rgP:=by rw [List.map_pmap];exact List.pmap_eq_map (f:=rgP) h
 have e2:(jf nZ (l.pmap Subtype.mk h)).map (eC fun x:BRg=>[Value.string x.1.lo,Value.string x.1.hi,Value.bool x.1.op]) = (tt l).map rgP:=by unfold tt;rw [dif_pos h,List.map_map];rfl
 rw [e1,e2] at this
 exact this
theorem Db (l:List Rg) (h:dr l) (hl:l.length ≤ 1000000000):Fn Tryz.prog 29 [dS l] (ze l):=by
 have hr:∀ r ∈ l,eO r = true:=fun r hr=>by
  obtain ⟨i,hi,rfl⟩:=List.getElem_of_mem hr
  exact (h i hi).1
 have hf:l.filter eO = l:=List.filter_eq_self.2 hr
 have hs:∀ r ∈ l,r.lo.size ≤ 1000000000000:=fun r q=>by have:=((bT r).1 (hr r q)).1;omega
 have h1:=JK l hs hl
 rw [JI h hs] at h1
 have:=C7 l l (by rw [hf];exact h1) (by rw [hf]) hr ((zl h).imp fun {x y} q=>by grind) hl
 rwa [Ol h] at this
end
def BR:PV:=⟨fun _ _ _=>True,fun _ _ _ h=>h⟩
theorem tu {α:Type} (l m:List α) (a:Nat) (h:a + m.length ≤ l.length) (q:Nat):(l.take a ++ m ++ l.drop (a + m.length))[q]? = if a ≤ q ∧ q < a + m.length then m[q - a]? else l[q]?:=by
 have ht:(l.take a).length = a:=by simp;omega
 rcases Nat.lt_or_ge q a with hlt|hge
 ·rw [if_neg (by omega),List.append_assoc,List.getElem?_append_left (by omega),List.getElem?_take,if_pos hlt]
 ·rw [List.append_assoc,List.getElem?_append_right (by omega),ht]
  rcases Nat.lt_or_ge q (a + m.length) with hlt|hge2
  ·rw [if_pos ⟨hge,hlt⟩,List.getElem?_append_left (by omega)]
  ·rw [if_neg (by omega),List.getElem?_append_right (by omega),List.getElem?_drop]
   congr 1;omega
section
variable {P:Program} {n:Nat} {ops:Array Oper} {o:Oper} {F:List Nat} {S T:St} {C:Ctx} {g:Gh} {a:Act} {w w':World} {t:Nat}
theorem Na {ty e':TypeId} {x:Operand} {lo hi:Option Operand} {id vr e k l h:Nat} {es:List (List PV)} (hp:Pl n o t) (ho:o.op = .slice ty x lo hi none) (hT:dQ P ty (.slice e')) (hk:cT P e' k) (h0:Nat.blt 0 k = true)
 (hx:S.opd x = .row id vr) (hv:S.ver id = vr) (hb:S.blk id = .row e k es) (hbn:Aj S lo hi es.length l h) (hlt:l < es.length):aw n P ops o ((2 * id + 1) :: (aA x ++ jE lo hi)) (.vw id vr k l (h - l)) [] S:=
 aM hp fun C T g a w hA hR=>by
  obtain ⟨h1,h2⟩:=ko (x:=x) hA (fun k h=>by simp [h]) (by simp) hR hx hv hb
  have hvt:=(hA.2 id (by simp)).2
  rcases h2 with ⟨_,rfl⟩|⟨cap,cs,q1,q2,q3,q4,q5,q6,q7⟩
  ·simp at hlt
  ·have b3:=hbn.2.2.1
   have b4:=hbn.2.2.2
   refine ⟨.slice (some ⟨g.ph id,l * k,none⟩) (h - l) (cap - l),?_,⟨by omega,fun _=>⟨cap - l,rfl,by omega⟩⟩⟩
   have hr:=jQ (P:=P) (ad:=some ⟨g.ph id,0,none⟩) (c:=cap) (w:=w) hT.h hk.h (Nat.le_of_ble_eq_true h0) hA (fun k h=>by simp [h]) hR hbn (by omega)
   rw [if_neg (by omega)] at hr
   simp only [execOp,ho,h1,q1,Sem.run_bind,Option.map_none,hr,Option.map_some,Addr.add_lit,Nat.zero_add];rfl
theorem wM {ty e':TypeId} {x:Operand} {id vr k lo len:Nat} (hp:Pl n o t) (ho:jw o ty x) (hT:dQ P ty (.slice e')) (hx:S.opd x = .vw id vr k lo len) (hv:S.ver id = vr) :
 aw n P ops o ((2 * id + 1) :: aA x) (iC .i64 (len:Int)) [] S:=
 aM hp fun C T g a w hA hR=>by
  have h:=aD (x:=x) hA (fun k h=>by simp [h]) hR
  rw [hx] at h
  obtain ⟨c,hc,_⟩:=h.2 (by rw [(hA.2 id (by simp)).2,hv])
  exact ⟨_,od ho hc (vp hT.h w),rfl⟩
theorem rz {ty e':TypeId} {x ix:Operand} {id vr k lo len i:Nat} {kk:IntKind} {z:Int} (hp:Pl n o t) (ho:o.op = .indexAddr ty x ix) (hT:dQ P ty (.slice e')) (hk:cT P e' k) (h0:Nat.blt 0 k = true)
 (hx:S.opd x = .vw id vr k lo len) (hv:S.ver id = vr) (hi:S.opd ix = iC kk z) (hz:z = (i:Int)) (hlt:i < len):aw n P ops o ((2 * id + 1) :: (aA x ++ aA ix)) (.ept id vr k (lo + i) 0) [] S:=
 aM hp fun C T g a w hA hR=>by
  have h:=aD (x:=x) hA (fun k h=>by simp [h]) hR
  rw [hx] at h
  obtain ⟨c,hc,_⟩:=h.2 (by rw [(hA.2 id (by simp)).2,hv])
  have hvt:=(hA.2 id (by simp)).2
  have h3:=aV (x:=ix) hA (fun k h=>by simp [h]) hR hi
  refine ⟨.pointer (some ⟨g.ph id,lo * k + i * k,none⟩),?_,⟨by omega,fun _=>by rw [Nat.add_mul,Nat.add_zero]⟩⟩
  subst hz
  simp only [execOp,ho,hc,h3,Sem.run_bind,jv hT.h hk.h (Nat.le_of_ble_eq_true h0) hlt];rfl
theorem JL {ty e':TypeId} {x:Operand} {id vr e k lo len:Nat} {es es':List (List PV)} {z:Value} (hp:Dx o) (ho:o.op = .call { callee:=.builtin .clear,args:=#[x],argTypes:=#[ty] }) (hT:dQ P ty (.slice e')) (hz:dY P e' z)
 (hzk:z.cells.size = k) (hz1:z.cells.toList.all (·.oneCell') = true)
 (hx:S.opd x = .vw id vr k lo len) (hv:S.ver id = vr) (hb:S.blk id = .row e k es) (hl:lo + len ≤ es.length) (hn:0 < len)
 (he:es.take lo ++ List.replicate len (List.replicate k BR) ++ es.drop (lo + len) = es'):aw n P ops o ((2 * id + 1) :: aA x) .any [(id,vr,.row e k es')] S:=by
 subst he
 refine ⟨?_⟩
 intro C T hA a w ⟨g,hR⟩
 have h:=aD (x:=x) hA (fun k h=>by simp [h]) hR
 rw [hx] at h
 obtain ⟨c,hc,_⟩:=h.2 (by rw [(hA.2 id (by simp)).2,hv])
 have hvt:=(hA.2 id (by simp)).2
 have hB:=hR.blks id
 rw [(hA.2 id (by simp)).1,hb] at hB
 rcases hB with ⟨_,rfl⟩|⟨cap,cs,q1,q2,q3,q4,q5,q6,q7⟩
 ·simp at hl;omega
 obtain ⟨vs,hvs⟩:∃ vs,vs = (Builtin.zeroCells z.cells len).toList:=⟨_,rfl⟩
 have hvl:vs.length = len * k:=by rw [hvs];simp [Builtin.zeroCells,hzk]
 have hv1:∀ v ∈ vs,v.oneCell' = true:=by
  intro v hm
  rw [hvs] at hm
  simp only [Builtin.zeroCells,Array.toList_map,List.mem_map] at hm
  obtain ⟨i,hi,rfl⟩:=hm
  rw [List.all_eq_true] at hz1
  have hi':i < len * z.cells.size:=by simpa using hi
  have hpos:0 < z.cells.size:=by
   rcases Nat.eq_zero_or_pos z.cells.size with q|q
   ·rw [q] at hi';omega
   ·exact q
  have hmod:=Nat.mod_lt i hpos
  rw [getElem!_pos z.cells _ hmod]
  exact hz1 _ (by simp)
 have hlk:lo * k + len * k ≤ cs.size:=by
  have:=Nat.mul_le_mul_right k (show lo + len ≤ cap by omega)
  rw [Nat.add_mul] at this;omega
 have hrun:=run_storeCells_at (P:=P) (g.ph id) (lo * k) e vs 0 cs w q2 (by omega) hv1
 simp only [Nat.add_zero] at hrun
 have hexec:(execOp a.eval o).run P w = .ok (.value (.tuple #[])) (w.setRow (g.ph id) (cs.toList.take (lo * k) ++ vs ++ cs.toList.drop (lo * k + vs.length)).toArray):=by
  obtain ⟨m,rfl⟩:∃ m,len = m + 1:=⟨len - 1,by omega⟩
  rw [hvs] at hrun
  have hcl:(Builtin.clear_ #[ty] o.type #[.slice (some ⟨g.ph id,lo * k,none⟩) (m + 1) c]).run P w = .ok (.tuple #[]) (w.setRow (g.ph id) (cs.toList.take (lo * k) ++ vs ++ cs.toList.drop (lo * k + vs.length)).toArray):=by
   rw [hvs]
   simp [Builtin.clear_,run_underlying hT.h,Ga hz.h,hrun]
  simp only [execOp,ho,resolve,invoke,builtin,Sem.run_bind,Sem.run_pure,Result.andThen_ok,List.map_toArray,List.map_cons,List.map_nil,hc,hcl]
 unfold ia
 rw [if_pos (by simp [Region.wanted,hp.1])]
 unfold Oper.wp
 rw [hexec,Oper.upon_value]
 have hst:=qQ (cs':=(cs.toList.take (lo * k) ++ vs ++ cs.toList.drop (lo * k + vs.length)).toArray) hR rfl q2 q3
 have hver:(T.app o.dst .any [(id,vr,.row e k (es.take lo ++ List.replicate len (List.replicate k BR) ++ es.drop (lo + len)))]).ver = T.ver:=by
  funext i'
  rw [St.app_some_ver]
  split
  ·rename_i h;subst h;rw [hvt,hv]
  ·rfl
 refine ⟨g,hR.app1 (c:=.any) (fun t h=>by rw [hp.2] at h;cases h) (by rw [hver];exact hst) trivial ?_⟩
 rw [hver]
 have hlen2:(es.take lo ++ List.replicate len (List.replicate k BR) ++ es.drop (lo + len)).length = es.length:=by simp;omega
 have hel:∀ q,(es.take lo ++ List.replicate len (List.replicate k BR) ++ es.drop (lo + len))[q]? = if lo ≤ q ∧ q < lo + len then (List.replicate len (List.replicate k BR))[q - lo]? else es[q]?:=by
  intro q
  have:=tu es (List.replicate len (List.replicate k BR)) lo (by simpa using hl) q
  simpa using this
 have hcell:∀ q,((cs.toList.take (lo * k) ++ vs ++ cs.toList.drop (lo * k + vs.length)).toArray)[q]? = if lo * k ≤ q ∧ q < lo * k + vs.length then vs[q - lo * k]? else cs[q]?:=by
  intro q
  rw [List.getElem?_toArray,tu cs.toList vs (lo * k) (by simp;omega) q]
  split
  ·rfl
  ·simp
 refine .inr ⟨cap,_,by rw [hlen2];exact q1,setRow_heap _ _ _ _ _ _ q2,q3,by rw [hlen2];exact q4,q5,by rw [List.size_toArray,List.length_append,List.length_append,List.length_take,List.length_drop,Array.length_toList,hvl];omega,fun i' ps' hi'=>?_⟩
 rw [hel] at hi'
 split at hi'
 ·rename_i hin
  rw [List.getElem?_replicate,if_pos (by omega)] at hi'
  cases hi'
  refine ⟨by simp,fun j A hj=>?_⟩
  rw [List.getElem?_replicate] at hj
  split at hj
  ·rename_i hjk
   cases hj
   have e1:lo * k ≤ i' * k:=Nat.mul_le_mul_right k hin.1
   have e2:(i' + 1) * k ≤ (lo + len) * k:=Nat.mul_le_mul_right k hin.2
   rw [Nat.succ_mul,Nat.add_mul] at e2
   rw [hcell,if_pos (by omega)]
   exact ⟨vs[i' * k + j - lo * k]'(by omega),List.getElem?_eq_getElem _,hv1 _ (List.getElem_mem _),trivial⟩
  ·cases hj
 ·rename_i hout
  obtain ⟨r1,r2⟩:=q7 i' ps' hi'
  refine ⟨r1,fun j A hj=>?_⟩
  obtain ⟨u,s1,s2,s3⟩:=r2 j A hj
  have hjk:j < k:=by have:=(List.getElem?_eq_some_iff.1 hj).1;omega
  rw [hcell,if_neg ?_]
  ·exact ⟨u,s1,s2,A.mono hst.sz hst.keepN hst.n s3⟩
  ·rintro ⟨h1,h2⟩
   rcases Nat.lt_or_ge i' lo with q|q
   ·have e1:=Nat.mul_le_mul_right k (show i' + 1 ≤ lo from q)
    rw [Nat.succ_mul] at e1;omega
   ·have e1:=Nat.mul_le_mul_right k (show lo + len ≤ i' by omega)
    rw [Nat.add_mul] at e1;omega
theorem Mv {ty e':TypeId} {x:Operand} {hi:Option Operand} {id vr e k h:Nat} {es es':List (List PV)} (hp:Pl n o t) (ho:o.op = .slice ty x none hi none) (hT:dQ P ty (.slice e')) (hk:cT P e' k) (h0:Nat.blt 0 k = true)
 (hx:S.opd x = .row id vr) (hv:S.ver id = vr) (hb:S.blk id = .row e k es) (hbn:Aj S none hi es.length 0 h) (he:es.take h = es') (hfx:cV id = false:=by rfl) :
 aw n P ops o ((2 * id + 1) :: (aA x ++ jE none hi)) (.row id (vr + 1)) [(id,vr + 1,.row e k es')] S:=by
 subst he
 refine ⟨?_⟩
 intro C T hA a w ⟨g,hR⟩
 obtain ⟨h1,h2⟩:=ko (x:=x) hA (fun k h=>by simp [h]) (by simp) hR hx hv hb
 have hvt:=(hA.2 id (by simp)).2
 have hbn4:h ≤ es.length:=hbn.2.2.2
 have hvr:∀ i,(T.app o.dst (.row id (vr + 1)) [(id,vr + 1,.row e k (es.take h))]).ver i = if i = id then T.ver id + 1 else T.ver i:=fun i=>by rw [St.app_some_ver,hvt,hv]
 have hmul:(es.take h).length = h:=by simp;omega
 unfold ia
 rw [if_pos (hp.wanted a)]
 unfold Oper.wp
 rcases h2 with ⟨q1,rfl⟩|⟨cap,cs,q1,q2,q3,q4,q5,q6,q7⟩
 ·have hh0:h = 0:=by simpa using hbn4
  subst hh0
  have hr:=jQ (P:=P) (ad:=none) (c:=0) (w:=w) hT.h hk.h (Nat.le_of_ble_eq_true h0) hA (fun k h=>by simp [h]) hR hbn (by omega)
  have hexec:(execOp a.eval o).run P w = .ok (.value (.slice none 0 0)) w:=by
   simp only [execOp,ho,h1,q1,Sem.run_bind,Option.map_none]
   simp only [List.length_nil,Option.map_none] at hr
   rw [hr];rfl
  rw [hexec,Oper.upon_value]
  have hst:=mG (v:=.slice none 0 0) (t:=id) hR (bw.refl w) hvr hfx
  refine ⟨g.mkN id (.slice none 0 0),hR.app1 hp.dOk hst ⟨by rw [hvr,if_pos rfl,hvt,hv];exact Nat.le_refl _,fun _=>?_⟩ (.inl ⟨?_,by simp⟩)⟩
  ·show _ = (if id = id then _ else _);rw [if_pos rfl]
  ·show (if id = id then _ else _) = _;rw [if_pos rfl]
 ·have hr:=jQ (P:=P) (ad:=some ⟨g.ph id,0,none⟩) (c:=cap) (w:=w) hT.h hk.h (Nat.le_of_ble_eq_true h0) hA (fun k h=>by simp [h]) hR hbn (by omega)
  have hexec:(execOp a.eval o).run P w = .ok (.value (.slice (some ⟨g.ph id,0,none⟩) h cap)) w:=by
   simp only [execOp,ho,h1,q1,Sem.run_bind,Option.map_none]
   simp only [Option.map_none,Option.map_some,Addr.add_lit,Nat.zero_mul,Nat.add_zero,Nat.sub_zero,ite_self] at hr
   rw [hr];rfl
  rw [hexec,Oper.upon_value]
  have hst:=mG (v:=.slice (some ⟨g.ph id,0,none⟩) h cap) (t:=id) hR (bw.refl w) hvr hfx
  refine ⟨g.mkN id (.slice (some ⟨g.ph id,0,none⟩) h cap),hR.app1 hp.dOk hst ⟨by rw [hvr,if_pos rfl,hvt,hv];exact Nat.le_refl _,fun _=>?_⟩ (.inr ⟨cap,cs,?_,q2,q3,by rw [hmul];omega,q5,q6,fun i ps hi=>?_⟩)⟩
  ·show _ = (if id = id then _ else _);rw [if_pos rfl]
  ·show (if id = id then _ else _) = _;rw [if_pos rfl,hmul];rfl
  ·rw [List.getElem?_take] at hi
   split at hi
   ·obtain ⟨r1,r2⟩:=q7 i ps hi
    refine ⟨r1,fun j A hj=>?_⟩
    obtain ⟨u,s1,s2,s3⟩:=r2 j A hj
    exact ⟨u,s1,s2,A.mono hst.sz hst.keepN hst.n s3⟩
   ·cases hi
end
end Go.Proofs.YtliiahjpiagdkaaGreat
namespace Go.Proofs.YtliiahjpiagdkaaGreat
open Go.RowKit Go.Shelf
abbrev Vn:=Int × Int
abbrev vnP (v:Vn):List PV:=Qr v.1 v.2
abbrev Oo (v:Vn):Bool:=cC v.1 v.2
def fM (p:Vn):List Vn → List Vn
 | []=>[]
 | x :: l=>if x = p then fM x l else x :: fM x l
def jB:List Vn → List Vn
 | []=>[]
 | x :: l=>x :: fM x l
theorem u0 (p:Vn) (l:List Vn):(fM p l).length ≤ l.length:=by
 induction l generalizing p with
 | nil=>exact Nat.le_refl _
 | cons x l ih=>
  unfold fM
  have:=ih x
  split
  ·simp only [List.length_cons];omega
  ·simp only [List.length_cons];omega
theorem E6 (l:List Vn):(jB l).length ≤ l.length:=by
 cases l with
 | nil=>exact Nat.le_refl _
 | cons x l=>have:=u0 x l;simp only [jB,List.length_cons];omega
theorem BS {l:List Vn} {k:Nat} (h:k < l.length) (h0:k = 0):l.take (k + 1) ++ fM l[k] (l.drop (k + 1)) = jB l:=by
 subst h0
 cases l with
 | nil=>cases h
 | cons x l=>rfl
section
theorem Nb (x y:Vn):(decide (x.1 = y.1) && (decide (x.2 = y.2) && true)) = decide (x = y):=by
 rw [Bool.eq_iff_iff];simp [Prod.ext_iff]
theorem Oq:dY Tryz.prog 39 (.agg #[.int .i64 0,.int .i64 0]):=⟨by kernel_rfl⟩
theorem JM (l:List Vn) (hl:l.length ≤ 1000000000) :
 de Tryz.prog 180 [.row 2000 0] [(2000,.row 39 2 (l.map vnP))] (.row 3000 0) [(3000,.row 39 2 ((jB l).map vnP))]:=by
 have hE:∀ x y:Vn,xN Tryz.prog 10000 39 [.int .i64 x.1,.int .i64 x.2] [.int .i64 y.1,.int .i64 y.2] = some (decide (x = y)):=fun x y=>(vN x.1 x.2 y.1 y.2).trans (congrArg some (Nb x y))
 by_cases h2:l.length < 2
 ·have hR:jB l = l:=by
   match l,h2 with
   | [],_=>rfl
   | [x],_=>rfl
  rw [hR]
  clear hE hR
  refine eR Tryz.func180 Tryz.ntmps180 ?_
  (refine qp ?_;repeat' first|apply ai|refine aj fun hc=>?_)
  (refine ⟨(by first|exact .inl rfl|exact .inr rfl),cc [(2000,3000)] rfl rfl ?_ ?_⟩;(focus (repeat (first|exact aW.nil|(refine aW.cons rfl ?_ ?_;(focus first|rfl|skip))))))
  exact uq rfl rfl
 generalize hR:jB l = R
 have hRl:R.length ≤ l.length:=by rw [← hR];exact E6 l
 refine eR Tryz.func180 Tryz.ntmps180 ?_
 (refine qp ?_;repeat' first|apply ai|refine aj fun hc=>?_)
 refine an (X:=Nat) (fun k=>k + 1 ≤ l.length ∧ ∃ h:k < l.length,l.take (k + 1) ++ fM l[k] (l.drop (k + 1)) = R) (fun k=>ba [(0,.row 2000 0),(3,iC .i64 ((k + 1:Nat):Int))] [(2000,.row 39 2 (l.map vnP))]) (fun k=>l.length - k) 0 ⟨by omega,by omega,(BS (by omega) rfl).trans hR⟩ ?_ ?_
 ·exact ae
 ·rintro k ⟨h1,h3,h4⟩
  by_cases hk:k + 1 < l.length
  ·have e0:((k + 1:Nat):Int) - 1 = (k:Nat):=by omega
   have kL1:Hid ((l.map vnP)[k]? = some (vnP l[k])):=Lib.hid (by rw [List.getElem?_map,List.getElem?_eq_getElem h3];rfl)
   have kL2:Hid ((l.map vnP)[k + 1]? = some (vnP l[k + 1])):=Lib.hid (by rw [List.getElem?_map,List.getElem?_eq_getElem hk];rfl)
   have hE1:=hE l[k + 1] l[k]
   rw [List.drop_eq_getElem_cons hk] at h4
   unfold fM at h4
   by_cases hxy:l[k + 1] = l[k]
   ·rw [if_pos hxy] at h4
    rw [decide_eq_true hxy] at hE1
    have h4:l.take (k + 1) ++ fM l[k + 1] (l.drop (k + 1 + 1)) = R:=h4
    have hEa:=hE
    clear hE hR
    (refine eL e0 ?_;repeat' first|apply ai|refine aj fun hc=>?_|((first|apply aO rfl|apply aP rfl|apply aQ rfl|apply aR rfl);(focus ((try (apply b8;(focus rfl);apply ah rfl rfl rfl rfl rfl));first|(exact dR (us:=[.int .i64 l[k + 1].1,.int .i64 l[k + 1].2]) (vs:=[.int .i64 l[k].1,.int .i64 l[k].2]) ⟨rfl,rfl,rfl⟩ rfl rfl rfl (by first|exact .inl ⟨rfl,rfl⟩|exact .inr ⟨rfl,rfl⟩) AH rfl hE1)|((exact Na (l:=k + 1) (h:=l.length) ⟨rfl,rfl,rfl⟩ rfl inferInstance inferInstance rfl rfl rfl rfl ⟨⟨_,_,rfl,rfl⟩,(by simp),by omega,by simp⟩ (by simp;omega)))));refine eL e0 ?_))
    have h6:∃ h:k + 1 + 0 < l.length,l.take (k + 1) ++ fM l[k + 1 + 0] (l.drop (k + 1 + 0 + 1)) = R:=⟨hk,h4⟩
    clear h4 kL1 kL2 hE1 hxy e0
    refine an (X:=List Vn × Nat × Nat) (fun x=>x.1.length = l.length ∧ x.2.1 < k + 1 + x.2.2 + 1 ∧ ∃ h:k + 1 + x.2.2 < x.1.length,x.1.take x.2.1 ++ fM x.1[k + 1 + x.2.2] (x.1.drop (k + 1 + x.2.2 + 1)) = R)
     (fun x=>ba [(0,.row 2000 0),(3,iC .i64 (x.2.1:Nat)),(4,.vw 2000 0 2 (k + 1) (l.length - (k + 1))),(5,iC .i64 ((x.2.2 + 1:Nat):Int))] [(2000,.row 39 2 (x.1.map vnP))]) (fun x=>l.length - (k + 1 + x.2.2)) (l,k + 1,0) ⟨rfl,by simp only;omega,h6⟩ ?_ ?_
    ·exact ae
    ·clear h6
     rintro ⟨M,kk,m⟩ ⟨g1,g2,g3,g4⟩
     simp only at g1 g2 g3 g4 ⊢
     by_cases hm:k + 1 + m + 1 < M.length
     ·have e1:((m + 1:Nat):Int) - 1 = (m:Nat):=by omega
      have kL1:Hid ((M.map vnP)[k + 1 + m]? = some (vnP M[k + 1 + m])):=Lib.hid (by rw [List.getElem?_map,List.getElem?_eq_getElem g3];rfl)
      have kL2:Hid ((M.map vnP)[k + 1 + (m + 1)]? = some (vnP M[k + 1 + m + 1])):=Lib.hid (by rw [List.getElem?_map,← Nat.add_assoc,List.getElem?_eq_getElem hm];rfl)
      have hE1:=hEa M[k + 1 + m + 1] M[k + 1 + m]
      rw [List.drop_eq_getElem_cons hm] at g4
      unfold fM at g4
      by_cases hxy:M[k + 1 + m + 1] = M[k + 1 + m]
      ·rw [if_pos hxy] at g4
       rw [decide_eq_true hxy] at hE1
       have g6:∃ h:k + 1 + (m + 1) < M.length,M.take kk ++ fM M[k + 1 + (m + 1)] (M.drop (k + 1 + (m + 1) + 1)) = R:=⟨hm,g4⟩
       clear g4 hEa
       generalize M[k + 1 + m + 1] = x at *
       generalize M[k + 1 + m] = y at *
       (refine eL e1 ?_;repeat' first|apply ai|refine aj fun hc=>?_|((first|apply aO rfl|apply aP rfl|apply aQ rfl|apply aR rfl);(focus ((try (apply b8;(focus rfl);apply ah rfl rfl rfl rfl rfl));first|(exact dR (us:=[.int .i64 x.1,.int .i64 x.2]) (vs:=[.int .i64 y.1,.int .i64 y.2]) ⟨rfl,rfl,rfl⟩ rfl rfl rfl (by first|exact .inl ⟨rfl,rfl⟩|exact .inr ⟨rfl,rfl⟩) AH rfl hE1)|((exact wM ⟨rfl,rfl,rfl⟩ rfl inferInstance rfl rfl))|((exact rz (i:=m + 1) ⟨rfl,rfl,rfl⟩ rfl inferInstance inferInstance rfl rfl rfl rfl rfl (by omega)))|((exact rz (i:=m) ⟨rfl,rfl,rfl⟩ rfl inferInstance inferInstance rfl rfl rfl rfl rfl (by omega)))));refine eL e1 ?_))
       refine ⟨(M,kk,m + 1),⟨g1,by simp only;omega,g6⟩,by simp only;omega,?_⟩
       exact ae
      ·rw [if_neg hxy] at g4
       rw [decide_eq_false hxy] at hE1
       have hkk:kk < M.length:=by omega
       have hS:(M.map vnP).set kk (cG (vnP M[kk]) 0 (vnP M[k + 1 + m + 1])) = (M.set kk M[k + 1 + m + 1]).map vnP:=cN vnP M kk _
       have g7:(M.set kk M[k + 1 + m + 1]).length = l.length:=by rw [List.length_set];exact g1
       have g6:∃ h:k + 1 + (m + 1) < (M.set kk M[k + 1 + m + 1]).length,(M.set kk M[k + 1 + m + 1]).take (kk + 1) ++ fM (M.set kk M[k + 1 + m + 1])[k + 1 + (m + 1)] ((M.set kk M[k + 1 + m + 1]).drop (k + 1 + (m + 1) + 1)) = R:=by
        refine ⟨by rw [List.length_set];exact hm,?_⟩
        rw [List.getElem_set_ne (by omega),List.drop_set_of_lt (by omega),aJ _ kk (by rw [List.length_set];exact hkk),List.getElem_set_self,List.take_set_of_le (Nat.le_refl _),List.append_assoc]
        exact g4
       have kL3:=kL1
       clear kL1
       have kL1:Hid ((M.map vnP)[kk]? = some (vnP M[kk])):=Lib.hid (by rw [List.getElem?_map,List.getElem?_eq_getElem hkk];rfl)
       have kS1:=Lib.hid hS
       clear g4 hEa hS
       generalize M.set kk M[k + 1 + m + 1] = M' at *
       generalize M[k + 1 + m + 1] = x at *
       generalize M[k + 1 + m] = y at *
       generalize M[kk] = z at *
       (refine eL e1 ?_;repeat' first|apply ai|refine aj fun hc=>?_|((first|apply aO rfl|apply aP rfl|apply aQ rfl|apply aR rfl);(focus ((try (apply b8;(focus rfl);apply ah rfl rfl rfl rfl rfl));first|(exact dR (us:=[.int .i64 x.1,.int .i64 x.2]) (vs:=[.int .i64 y.1,.int .i64 y.2]) ⟨rfl,rfl,rfl⟩ rfl rfl rfl (by first|exact .inl ⟨rfl,rfl⟩|exact .inr ⟨rfl,rfl⟩) AH rfl hE1)|((exact wM ⟨rfl,rfl,rfl⟩ rfl inferInstance rfl rfl))|((exact rz (i:=m + 1) ⟨rfl,rfl,rfl⟩ rfl inferInstance inferInstance rfl rfl rfl rfl rfl (by omega)))|((exact rz (i:=m) ⟨rfl,rfl,rfl⟩ rfl inferInstance inferInstance rfl rfl rfl rfl rfl (by omega)))));refine eL e1 ?_))
       refine ⟨(M',kk + 1,m + 1),⟨g7,by simp only;omega,g6⟩,by simp only;omega,?_⟩
       exact ae
     ·have hm:M.length = k + 1 + m + 1:=by omega
      rw [List.drop_of_length_le (by omega)] at g4
      have hkk:kk < M.length:=by omega
      have g4:M.take kk = R:=by rw [← g4];simp [fM]
      have hcut:((M.map vnP).take kk ++ List.replicate (M.length - kk) (List.replicate 2 BR) ++ (M.map vnP).drop (kk + (M.length - kk))).take kk = R.map vnP:=by
       rw [List.append_assoc,List.take_append_of_le_length (by simp;omega),List.take_take,Nat.min_self,← List.map_take,g4]
      clear hEa g4
      (refine qp ?_;repeat' first|apply ai|refine aj fun hc=>?_|((first|apply aO rfl|apply aP rfl|apply aQ rfl|apply aR rfl);(focus ((try (apply b8;(focus rfl);apply ah rfl rfl rfl rfl rfl));first|((exact wM ⟨rfl,rfl,rfl⟩ rfl inferInstance rfl rfl))|((exact Na (l:=kk) (h:=M.length) ⟨rfl,rfl,rfl⟩ rfl inferInstance inferInstance rfl rfl rfl rfl ⟨⟨_,_,rfl,rfl⟩,(by simp),by omega,by simp⟩ (by simp;omega)))|((exact JL ⟨rfl,rfl⟩ rfl inferInstance Oq rfl rfl rfl rfl rfl (by rw [List.length_map];omega) (by omega) rfl))|((exact Mv (h:=kk) ⟨rfl,rfl,rfl⟩ rfl inferInstance inferInstance rfl rfl rfl rfl ⟨rfl,⟨_,_,rfl,rfl⟩,by omega,(by simp;omega)⟩ hcut))));refine qp ?_))
      (refine ⟨(by first|exact .inl rfl|exact .inr rfl),cc [(2000,3000)] rfl rfl ?_ ?_⟩;(focus (repeat (first|exact aW.nil|(refine aW.cons rfl ?_ ?_;(focus first|rfl|skip))))))
      exact uq rfl rfl
   ·rw [if_neg hxy] at h4
    rw [decide_eq_false hxy] at hE1
    have h5:l.take (k + 1 + 1) ++ fM l[k + 1] (l.drop (k + 1 + 1)) = R:=by
     rw [← h4,aJ l (k + 1) hk,List.append_assoc];rfl
    have h6:∃ h:k + 1 < l.length,l.take (k + 1 + 1) ++ fM l[k + 1] (l.drop (k + 1 + 1)) = R:=⟨hk,h5⟩
    clear h4 h5 hE hR
    generalize l[k + 1] = x at *
    generalize l[k] = y at *
    (refine eL e0 ?_;repeat' first|apply ai|refine aj fun hc=>?_|((first|apply aO rfl|apply aP rfl|apply aQ rfl|apply aR rfl);(focus ((try (apply b8;(focus rfl);apply ah rfl rfl rfl rfl rfl));first|(exact dR (us:=[.int .i64 x.1,.int .i64 x.2]) (vs:=[.int .i64 y.1,.int .i64 y.2]) ⟨rfl,rfl,rfl⟩ rfl rfl rfl (by first|exact .inl ⟨rfl,rfl⟩|exact .inr ⟨rfl,rfl⟩) AH rfl hE1)));refine eL e0 ?_))
    refine ⟨k + 1,⟨by omega,h6⟩,by omega,?_⟩
    exact ae
  ·have hk:l.length = k + 1:=by omega
   rw [List.drop_of_length_le (by omega),List.take_of_length_le (by omega)] at h4
   have h4:l = R:=by rw [← h4];simp [fM]
   subst h4
   clear hE hR
   (refine qp ?_;repeat' first|apply ai|refine aj fun hc=>?_)
   (refine ⟨(by first|exact .inl rfl|exact .inr rfl),cc [(2000,3000)] rfl rfl ?_ ?_⟩;(focus (repeat (first|exact aW.nil|(refine aW.cons rfl ?_ ?_;(focus first|rfl|skip))))))
   exact uq rfl rfl
end
def o8 (x y:Vn):Int:=yd x.1 x.2 y.1 y.2
theorem zm (x y:Vn):ltOf o8 x y = true ↔ x.1 < y.1 ∨ x.1 = y.1 ∧ x.2 < y.2:=by
 unfold ltOf o8 yd
 rw [decide_eq_true_eq]
 split
 ·omega
 ·split
  ·omega
  ·omega
theorem qf (x y:Vn):ltOf o8 x y = false ↔ ¬ (x.1 < y.1 ∨ x.1 = y.1 ∧ x.2 < y.2):=by
 rw [← zm];simp
theorem qg:Sort.SWO (ltOf o8) where
 irrefl x:=by rw [qf];omega
 trans x y z h1 h2:=by rw [zm] at *;omega
 ntrans x y z h1 h2:=by rw [qf] at *;omega
def kd (l:List Vn):List Vn:=jf o8 l
theorem tv (l:List Vn):(kd l).Perm l:=(gL qg l).1
theorem zn:∀ (l:List Vn) (p:Vn),(p :: l).Pairwise (fun x y=>ltOf o8 y x = false) → ((fM p l).length = l.length ↔ (p :: l).Nodup):=by
 intro l
 induction l with
 | nil=>intro p _;simp [fM]
 | cons x l ih=>
  intro p h
  have h2:=ih x h.of_cons
  unfold fM
  by_cases e:x = p
  ·rw [if_pos e]
   have:=u0 x l
   constructor
   ·intro q;simp only [List.length_cons] at q;omega
   ·intro q;exact absurd (by rw [e];exact List.mem_cons_self) (List.nodup_cons.1 q).1
  ·rw [if_neg e,List.length_cons,List.length_cons,List.nodup_cons,← h2]
   constructor
   ·intro q
    refine ⟨fun hm=>?_,by omega⟩
    rcases List.mem_cons.1 hm with hm|hm
    ·exact e hm.symm
    ·have a:=(List.pairwise_cons.1 h).1 x List.mem_cons_self
     have b:=(List.pairwise_cons.1 h.of_cons).1 p hm
     rw [qf] at a b
     exact e (Prod.ext (by omega) (by omega))
   ·intro q;omega
theorem zo (l:List Vn):(jB (kd l)).length = l.length ↔ l.Nodup:=by
 obtain ⟨h1,h2⟩:=gL qg l
 have h1:(kd l).Perm l:=h1
 have h2:(kd l).Pairwise (fun x y=>ltOf o8 y x = false):=h2
 rw [← h1.nodup_iff,← h1.length_eq]
 generalize kd l = L at *
 cases L with
 | nil=>simp [jB]
 | cons p L=>rw [← zn L p h2];simp [jB]
section
def so_ver_ren:Go.Shelf.Ren:=⟨fun|6=>178|14=>208|15=>110|20=>234|21=>235|22=>236|23=>237|24=>238|25=>239|26=>240|27=>241|28=>160|29=>161|46=>252|47=>198|48=>199|49=>253|50=>254|57=>266|n=>n,fun|0=>0|3=>3|4=>4|5=>5|9=>9|22=>171|24=>39|25=>215|39=>153|45=>192|46=>193|50=>137|53=>199|55=>51|66=>231|70=>234|76=>254|77=>255|n=>n,fun n=>n⟩
theorem Ot:SlLaysF0.n6 Tryz.prog so_ver_ren:={ mixed:=by kernel_rfl,f6:=⟨Tryz.f178.name,by decide,Tryz.func178.trans (congrArg some (by kernel_rfl))⟩,f14:=⟨Tryz.f208.name,by decide,Tryz.func208.trans (congrArg some (by kernel_rfl))⟩,f15:=Tryz.func110.trans (congrArg some (by kernel_rfl)),f20:=⟨Tryz.f234.name,by decide,Tryz.func234.trans (congrArg some (by kernel_rfl))⟩,f21:=⟨Tryz.f235.name,by decide,Tryz.func235.trans (congrArg some (by kernel_rfl))⟩,f22:=⟨Tryz.f236.name,by decide,Tryz.func236.trans (congrArg some (by kernel_rfl))⟩,f23:=⟨Tryz.f237.name,by decide,Tryz.func237.trans (congrArg some (by kernel_rfl))⟩,f24:=⟨Tryz.f238.name,by decide,Tryz.func238.trans (congrArg some (by kernel_rfl))⟩,f25:=⟨Tryz.f239.name,by decide,Tryz.func239.trans (congrArg some (by kernel_rfl))⟩,f26:=⟨Tryz.f240.name,by decide,Tryz.func240.trans (congrArg some (by kernel_rfl))⟩,f27:=⟨Tryz.f241.name,by decide,Tryz.func241.trans (congrArg some (by kernel_rfl))⟩,f28:=Tryz.func160.trans (congrArg some (by kernel_rfl)),f29:=Tryz.func161.trans (congrArg some (by kernel_rfl)),f46:=⟨Tryz.f252.name,by decide,Tryz.func252.trans (congrArg some (by kernel_rfl))⟩,f47:=Tryz.func198.trans (congrArg some (by kernel_rfl)),f48:=Tryz.func199.trans (congrArg some (by kernel_rfl)),f49:=⟨Tryz.f253.name,by decide,Tryz.func253.trans (congrArg some (by kernel_rfl))⟩,f50:=⟨Tryz.f254.name,by decide,Tryz.func254.trans (congrArg some (by kernel_rfl))⟩,f57:=⟨Tryz.f266.name,by decide,Tryz.func266.trans (congrArg some (by kernel_rfl))⟩,t0:=Tryz.underlying0,a0:=Tryz.isAgg0,z0:=Tryz.sizeOf0,v0:=Tryz.zeroValue0,t3:=Tryz.underlying3,a3:=Tryz.isAgg3,z3:=Tryz.sizeOf3,v3:=Tryz.zeroValue3,t4:=Tryz.underlying4,a4:=Tryz.isAgg4,z4:=Tryz.sizeOf4,v4:=Tryz.zeroValue4,t5:=Tryz.underlying5,a5:=Tryz.isAgg5,z5:=Tryz.sizeOf5,v5:=Tryz.zeroValue5,t9:=Tryz.underlying9,a9:=Tryz.isAgg9,z9:=Tryz.sizeOf9,v9:=Tryz.zeroValue9,t22:=Tryz.underlying171,a22:=Tryz.isAgg171,z22:=Tryz.sizeOf171,v22:=Tryz.zeroValue171,t25:=Tryz.underlying215,a25:=Tryz.isAgg215,z25:=Tryz.sizeOf215,v25:=Tryz.zeroValue215,t39:=Tryz.underlying153,a39:=Tryz.isAgg153,z39:=Tryz.sizeOf153,v39:=Tryz.zeroValue153,t45:=Tryz.underlying192,a45:=Tryz.isAgg192,z45:=Tryz.sizeOf192,v45:=Tryz.zeroValue192,t46:=Tryz.underlying193,a46:=Tryz.isAgg193,z46:=Tryz.sizeOf193,v46:=Tryz.zeroValue193,t50:=Tryz.underlying137,a50:=Tryz.isAgg137,z50:=Tryz.sizeOf137,v50:=Tryz.zeroValue137,t53:=Tryz.underlying199,a53:=Tryz.isAgg199,z53:=Tryz.sizeOf199,v53:=Tryz.zeroValue199,t55:=Tryz.underlying51,a55:=Tryz.isAgg51,z55:=Tryz.sizeOf51,v55:=Tryz.zeroValue51,t66:=Tryz.underlying231,a66:=Tryz.isAgg231,z66:=Tryz.sizeOf231,v66:=Tryz.zeroValue231,t70:=Tryz.underlying234,a70:=Tryz.isAgg234,z70:=Tryz.sizeOf234,v70:=Tryz.zeroValue234,t76:=Tryz.underlying254,a76:=Tryz.isAgg254,z76:=Tryz.sizeOf254,v76:=Tryz.zeroValue254,t77:=Tryz.underlying255,a77:=Tryz.isAgg255,z77:=Tryz.sizeOf255,v77:=Tryz.zeroValue255 }
theorem JN (x y:Vn) (w:World) :
 Calls Tryz.prog 179 #[.agg #[.int .i64 x.1,.int .i64 x.2],.agg #[.int .i64 y.1,.int .i64 y.2]] w fun e w'=>e = .returned (.int .i64 (o8 x y)) ∧ Gw w w':=by
 unfold o8 yd
 go_enter Tryz.func179,Tryz.ntmps179
 go_wp2
 all_goals (go_ret;exact ⟨rfl,((Gw.refl w).alloc _).alloc _⟩)
abbrev wN (l:List Vn):Cnt:=.bor 2 (l.map vnP)
theorem JO (l:List Vn) (hl:l.length ≤ 1000000000) :
 de Tryz.prog 178 [.row 1000 0,.per (av (.func (.func 179) #[] #[]))] [(1000,.row 39 2 (l.map vnP))] .any [(1000,.row 39 2 ((kd l).map vnP))]:=
 pE (e:=39) (k:=2) (G:=179) Ot Tryz.isAgg39 Tryz.sizeOf39 (enc:=fun x:Vn=>[.int .i64 x.1,.int .i64 x.2]) ⟨by decide,fun _=>rfl,fun x v hv=>by simp at hv;rcases hv with rfl|rfl <;> rfl⟩ qg (enters_of Tryz.func179 (by kernel_rfl) rfl)
  (fun x y w=>JN x y w) (nA Tryz.func178 (by kernel_rfl) (by kernel_rfl)) l (by omega)
end
section
theorem tw (l:List Vn) (hl:l.length ≤ 1000000000):Fn Tryz.prog 132 [wN l] (.own 39 2 ((jB (kd (l.filter Oo))).map vnP)):=by
 generalize hT:l.filter Oo = T at *
 have hTl:T.length ≤ 1000000000:=by rw [← hT];exact Nat.le_trans (List.length_filter_le _ _) hl
 have hs:=JO T hTl
 have hc1:=JM (kd T) (by rw [(tv T).length_eq];exact hTl)
 generalize jB (kd T) = R at *
 generalize kd T = Q at *
 refine fi Tryz.func132 Tryz.ntmps132 ?_
 (refine qp ?_;repeat' first|apply ai|refine aj fun hc=>?_)
 refine bZ (b7 3 600 39 2 rfl rfl) ?_
 refine an (X:=Nat × List Vn) (fun x=>x.1 ≤ l.length ∧ x.2 ++ (l.drop x.1).filter Oo = T)
  (fun x=>ba [(3,.row 600 0),(6,wN l),(7,iC .i64 (l.length:Nat)),(8,iC .i64 (x.1:Nat))] [(600,.row 39 2 (x.2.map vnP))]) (fun x=>l.length - x.1) (0,[]) ⟨Nat.zero_le _,by simp [hT]⟩ ?_ ?_
 ·exact ae
 ·rintro ⟨k,ac⟩ ⟨g1,g2⟩
  simp only at g1 g2 ⊢
  by_cases hk:k < l.length
  ·have hir:=eH l[k].1 l[k].2
   have hlen:ac.length ≤ 1000000000:=by
    have:=congrArg List.length g2
    simp only [List.length_append] at this;omega
   rw [List.drop_eq_getElem_cons hk,List.filter_cons] at g2
   cases hr:Oo l[k] with
   | false=>
    rw [show cC l[k].1 l[k].2 = false from hr] at hir
    rw [hr] at g2
    clear hs hc1
    (refine AF hir ?_;repeat' first|apply ai|refine aj fun hc=>?_)
    refine ⟨(k + 1,ac),⟨by simp only;omega,by simpa using g2⟩,by simp only;omega,?_⟩
    exact ae
   | true=>
    rw [show cC l[k].1 l[k].2 = true from hr] at hir
    rw [hr] at g2
    clear hs hc1
    (refine AF hir ?_;repeat' first|apply ai|refine aj fun hc=>?_)
    refine ⟨(k + 1,ac ++ [l[k]]),⟨by simp only;omega,by simpa using g2⟩,by simp only;omega,ay (aN 600 601) (ay (aN 601 600) ?_)⟩
    exact ae
  ·have hkl:k = l.length:=by omega
   subst hkl
   rw [List.drop_length] at g2
   simp at g2
   subst g2
   (have km1:=(show fv [(1000,600)] _ _ _ _ _ _ from hs);have km2:=(show fv [(2000,600),(3000,700)] _ _ _ _ _ _ from hc1);refine qp ?_;(repeat' first|apply ai|refine aj fun hc=>?_);all_goals clear km2 km1)
   refine aU ?_
   exact cI rfl rfl rfl
theorem zp (l:List It) (hr:l.all itR = true) (hl:l.length ≤ 1000000):Fn Tryz.prog 81 [eD l] (cw (dV l)):=by
 have hs:=tw (l.map verOf) (by rw [List.length_map];omega)
 have hf:(l.map verOf).filter Oo = l.map verOf:=by
  rw [List.filter_eq_self]
  intro v hv
  obtain ⟨x,hx,rfl⟩:=List.mem_map.1 hv
  have:=List.all_eq_true.1 hr x hx
  unfold itR at this
  simp only [Bool.and_eq_true] at this
  exact this.1.2
 rw [hf] at hs
 have hb:dV l = decide (((jB (kd (l.map verOf))).length:Int) = (l.length:Nat)):=by
  unfold dV
  rw [Bool.eq_iff_iff,decide_eq_true_eq,decide_eq_true_eq,← zo,List.length_map]
  omega
 rw [hb]
 clear hf hr hb
 generalize jB (kd (l.map verOf)) = R at *
 refine fi Tryz.func81 Tryz.ntmps81 ?_
 (refine qp ?_;repeat' first|apply ai|refine aj fun hc=>?_)
 refine bZ (b7 3 600 39 2 rfl rfl) ?_
 refine an (X:=Nat) (fun k=>k ≤ l.length)
  (fun k=>ba [(0,eD l),(3,.row 600 0),(6,eD l),(7,iC .i64 (l.length:Nat)),(8,iC .i64 (k:Nat))] [(600,.row 39 2 (((l.take k).map verOf).map vnP))]) (fun k=>l.length - k) 0 (Nat.zero_le _) ?_ ?_
 ·exact ae
 ·intro k hk
  by_cases hlt:k < l.length
  ·have hsn:(l.take (k + 1)).map verOf = (l.take k).map verOf ++ [(l[k].rep,l[k].cnt)]:=by rw [aJ l k hlt,List.map_append];rfl
   have hln:((l.take k).map verOf).length ≤ 1000000:=by simp;omega
   clear hs
   generalize (l.take k).map verOf = A at *
   (refine qp ?_;repeat' first|apply ai|refine aj fun hc=>?_)
   refine ⟨k + 1,hlt,by omega,ay (aN 600 601) (ay (aN 601 600) ?_)⟩
   rw [hsn]
   exact ae
  ·rw [List.take_of_length_le (by omega)]
   (refine AF hs ?_;repeat' first|apply ai|refine aj fun hc=>?_)
   refine aU ?_
   exact af rfl rfl
end
end Go.Proofs.YtliiahjpiagdkaaGreat
