/- Texts joined: KnP SoP Span Clo KnW. -/
import Derived.Test.YtembiemaiacdfaaGreatJ15
import Derived.Test.YtembiemaiacdfaaGreatJ05
import Derived.Test.YtembiemaiacdfaaGreatJ12
import Derived.Shelf.Slices.CompactS
import Derived.Test.YtembiemaiacdfaaGreatJ14
set_option maxRecDepth 10000
set_option maxHeartbeats 8000000
namespace Go.Proofs.YtembiemaiacdfaaGreat
theorem eG:bK []:=fun i hi=>by simp at hi
theorem kh (k:Kn) (l:List Kn):bK (k :: l) ↔ (1 ≤ k.rep ∧ k.rep ≤ 16 ∧ k.runs ≠ [] ∧ cK k.runs) ∧ (∀ q,l.head? = some q → k.rep < q.rep) ∧ bK l:=by
 constructor
 · intro h
   have h0:=h 0 (by simp) (by simp)
   refine ⟨⟨h0.1,h0.2.1,h0.2.2.1,h0.2.2.2.1⟩,fun q hq=>?_,fun i hi hi'=>?_⟩
   · cases l with
     | nil=>cases hq
     | cons z l=>
       cases hq
       exact (h 1 (by simp) (by simp)).2.2.2.2 (by omega)
   · have h1:=h (i + 1) (by simpa using hi) (by simpa using hi)
     simp only [List.getElem_cons_succ,Nat.add_sub_cancel] at h1
     refine ⟨h1.1,h1.2.1,h1.2.2.1,h1.2.2.2.1,fun h0=>?_⟩
     have h2:=h1.2.2.2.2 (by omega)
     obtain ⟨j,rfl⟩:∃ j,i = j + 1:=⟨i - 1,by omega⟩
     exact h2
 · rintro ⟨⟨h1,h2,h2',h2''⟩,h3,h4⟩ i hi hi'
   cases i with
   | zero=>exact ⟨h1,h2,h2',h2'',fun q=>absurd q (Nat.lt_irrefl _)⟩
   | succ i=>
     have h5:=h4 i (by simpa using hi) (by simpa using hi)
     simp only [List.getElem_cons_succ,Nat.add_sub_cancel]
     refine ⟨h5.1,h5.2.1,h5.2.2.1,h5.2.2.2.1,fun _=>?_⟩
     cases i with
     | zero=>
       cases l with
       | nil=>simp at hi
       | cons z l=>exact h3 z rfl
     | succ i=>exact h5.2.2.2.2 (by omega)
theorem qu:∀ (T:List (List Rn)) (i:Nat),i + T.length ≤ 16 → bK (aX ofR i T) ∧ ∀ q,(aX ofR i T).head? = some q → (i:Int) < q.rep:=by
 intro T
 induction T with
 | nil=>intro i _;exact ⟨eG,fun q hq=>by cases hq⟩
 | cons l T ih=>
   intro i hi
   rw [List.length_cons] at hi
   obtain ⟨h1,h2⟩:=ih (i + 1) (by omega)
   rw [aX]
   by_cases c:(ofR l).length = 0
   · rw [if_pos c,List.nil_append]
     exact ⟨h1,fun q hq=>by have:=h2 q hq;omega⟩
   · rw [if_neg c]
     refine ⟨(kh _ _).2 ⟨⟨by simp only;omega,by simp only;omega,fun e=>c (by simp only at e;rw [e];rfl),mi l⟩,fun q hq=>?_,h1⟩,fun q hq=>?_⟩
     · have:=h2 q hq;simp only;omega
     · cases hq;simp only;omega
theorem AC (s:List Kn):bK (em ofR s):=(qu _ 0 (by rw [aY];omega)).1
theorem y4:∀ (T:List (List Rn)) (i:Nat),(∀ l ∈ T,cK l) → aX ofR i T = aX id i T:=by
 intro T
 induction T with
 | nil=>intro i _;rfl
 | cons l T ih=>
   intro i h
   rw [aX,aX,tQ (h l (by simp)),ih _ (fun l hl=>h l (List.mem_cons_of_mem _ hl))]
   rfl
theorem ia {s:List Kn} (h:bK s):em ofR s = s:=by
 have:=qt s h
 unfold em at this ⊢
 rw [y4 _ _ (sn h)]
 exact this
theorem qv:∀ (T:List (List Rn)) (i r:Nat),aC (aX ofR i T) r = if h:i ≤ r ∧ r - i < T.length then ofR (T[r - i]'h.2) else []:=by
 intro T
 induction T with
 | nil=>intro i r;rw [dif_neg (by simp)];rfl
 | cons l T ih=>
   intro i r
   rw [aX]
   have happ:∀ a b:List Kn,aC (a ++ b) r = aC a r ++ aC b r:=fun a b=>by unfold aC;rw [List.flatMap_append]
   rw [happ,ih]
   have hhead:aC (if (ofR l).length = 0 then [] else [⟨(i:Int) + 1,ofR l⟩]) r = if i = r then ofR l else []:=by
     by_cases c:(ofR l).length = 0
     · rw [if_pos c]
       split
       · exact (List.eq_nil_of_length_eq_zero c).symm
       · rfl
     · rw [if_neg c]
       unfold aC
       simp only [List.flatMap_cons,List.flatMap_nil,List.append_nil]
       by_cases e:i = r
       · rw [if_pos (by omega),if_pos e]
       · rw [if_neg (by omega),if_neg e]
   rw [hhead]
   by_cases e:i = r
   · subst e
     rw [if_pos rfl,dif_neg (by omega),List.append_nil,dif_pos ⟨Nat.le_refl _,by simp⟩]
     simp
   · rw [if_neg e,List.nil_append]
     by_cases c:i + 1 ≤ r ∧ r - (i + 1) < T.length
     · rw [dif_pos c,dif_pos ⟨by omega,by rw [List.length_cons];omega⟩]
       obtain ⟨d,hd⟩:∃ d,r - i = d + 1:=⟨r - i - 1,by omega⟩
       have hd':r - (i + 1) = d:=by omega
       simp only [hd,hd',List.getElem_cons_succ]
     · rw [dif_neg c,dif_neg (by rw [List.length_cons];omega)]
theorem mq (s:List Kn):bj (em ofR s) = (bj s).map ofR:=by
 apply List.ext_getElem?
 intro i
 by_cases hi:i < 16
 · have hT:=aY s
   rw [bn _ hi,List.getElem?_map,bn _ hi]
   unfold em
   rw [qv,dif_pos ⟨Nat.zero_le _,by omega⟩]
   have:=bn s hi
   obtain ⟨h1,h2⟩:=List.getElem?_eq_some_iff.1 this
   simp only [Nat.sub_zero,h2,Option.map_some]
 · rw [List.getElem?_eq_none (by rw [aY];omega),List.getElem?_eq_none (by rw [List.length_map,aY];omega)]
def oU (g:List Rn → List Rn → List Rn) (a b:List Kn):List Kn:=aX id 0 (List.zipWith g (bj a) (bj b))
def KO (a b:List Rn):List Rn:=Ht (rK (fun x y=>x || y) a b) a b
theorem FC (a b:List Rn):KO a b = ofR (a ++ b):=KM a b
theorem jd:∀ (T:List (List Rn)) (i:Nat),aX id i (T.map ofR) = aX ofR i T:=by
 intro T
 induction T with
 | nil=>intro i;rfl
 | cons l T ih=>intro i;rw [List.map_cons,aX,aX,ih];rfl
theorem sv (a b:List Kn):bj (a ++ b) = List.zipWith (· ++ ·) (bj a) (bj b):=by
 apply List.ext_getElem?
 intro i
 by_cases hi:i < 16
 · rw [bn _ hi,List.getElem?_zipWith,bn _ hi,bn _ hi]
   simp only
   unfold aC
   rw [List.flatMap_append]
 · rw [List.getElem?_eq_none (by rw [aY];omega),List.getElem?_eq_none (by rw [List.length_zipWith,aY,aY];omega)]
theorem sw {g h:List Rn → List Rn → List Rn}:∀ (T U:List (List Rn)),(∀ t u,t ∈ T → u ∈ U → g t u = h t u) → List.zipWith g T U = List.zipWith h T U:=by
 intro T
 induction T with
 | nil=>intro U _;rfl
 | cons t T ih=>
   intro U hh
   cases U with
   | nil=>rfl
   | cons u U=>
     rw [List.zipWith_cons_cons,List.zipWith_cons_cons,hh t u (by simp) (by simp),ih U (fun t u a b=>hh t u (List.mem_cons_of_mem _ a) (List.mem_cons_of_mem _ b))]
theorem ws (X Y:List Kn):oU KO (em ofR X) (em ofR Y) = em ofR (X ++ Y):=by
 unfold oU
 rw [mq,mq,List.zipWith_map]
 unfold em
 rw [sv,← jd,List.map_zipWith]
 congr 1
 refine sw _ _ (fun t u _ _=>?_)
 rw [FC]
 exact wd (fun n=>by rw [gA,gA,e9,e9])
def fh (k:List Pc) (s:ByteArray):List Kn:=em ofR (k.flatMap fun p=>if bL p.rg s then p.set else [])
theorem oo (k:List Pc) (s:ByteArray):bK (fh k s):=AC _
theorem AE (a b:List Pc) (s:ByteArray):oU KO (fh a s) (fh b s) = fh (a ++ b) s:=by
 unfold fh
 rw [ws,List.flatMap_append]
theorem Cd {k:List Pc} (h:aO k) (s:ByteArray):(k.flatMap fun p=>if bL p.rg s then p.set else []) = cH k s:=by
 induction k with
 | nil=>rfl
 | cons p k ih=>
   obtain ⟨⟨hp,_,_⟩,_,hk⟩:=(cn _ _).1 h
   rw [List.flatMap_cons,ih hk]
   by_cases c:bL p.rg s = true
   · rw [if_pos c,g9 c]
     have:cH k s = []:=by
       refine Classical.byContradiction fun z=>?_
       obtain ⟨x,y⟩:=jE h z
       rcases ((b9 hp s).1 c).2 with w|w
       · rw [x] at w;cases w
       · grind
     rw [this,List.append_nil]
   · rw [if_neg c,List.nil_append,dN c]
theorem tY {k:List Pc} (h:aO k) (s:ByteArray):bK (cH k s):=by
 induction k with
 | nil=>exact eG
 | cons p k ih=>
   obtain ⟨⟨_,_,h3⟩,_,hk⟩:=(cn _ _).1 h
   rw [cH]
   split
   · exact h3
   · exact ih hk
theorem dA {k:List Pc} (h:aO k) (s:ByteArray):fh k s = cH k s:=by
 unfold fh
 rw [Cd h,ia (tY h s)]
def bB (k:List Pc):List Rg:=k.map Pc.rg
def fN (k:List Pc):List ByteArray:=gF [emB] (bB k)
theorem pm (k:List Pc):uL (fN k):=AB _ _ (by simp)
theorem tZ (k:List Pc):emB ∈ fN k:=(gG _ _ _).2 (.inl (by simp))
theorem pn (k:List Pc):l7 (fN k):=fun m hm=>by
 rcases (gG _ _ _).1 hm with h|⟨r,_,h1,h2⟩
 · have h:m = emB:=by simpa using h
   rw [h];decide
 · have:=(bH r).1 h1
   rcases h2 with h2|⟨_,h2⟩ <;> rw [h2]
   · exact this.1
   · exact this.2.1
theorem oq {r:Rg} {e n:ByteArray} (hen:e ≤ n) (h:∀ m,jp r m → m ≤ e ∨ n < m):bL r e = bL r n:=by
 cases c:eJ r with
 | false=>unfold bL;rw [c];rfl
 | true=>
   rw [Bool.eq_iff_iff,b9 c,b9 c]
   have h1:=h r.lo ⟨c,.inl rfl⟩
   cases o:r.op with
   | true=>
     constructor
     · rintro ⟨a,_⟩;exact ⟨by grind,.inl rfl⟩
     · rintro ⟨a,_⟩;exact ⟨by grind,.inl rfl⟩
   | false=>
     have h2:=h r.hi ⟨c,.inr ⟨o,rfl⟩⟩
     constructor
     · rintro ⟨a,b|b⟩
       · cases b
       · exact ⟨by grind,.inr (by grind)⟩
     · rintro ⟨a,b|b⟩
       · cases b
       · exact ⟨by grind,.inr (by grind)⟩
theorem po {k:List Pc} {e n:ByteArray} (hen:e ≤ n) (h:∀ p ∈ k,∀ m,jp p.rg m → m ≤ e ∨ n < m):fh k e = fh k n:=by
 unfold fh
 congr 1
 rw [List.flatMap_def,List.flatMap_def]
 congr 1
 exact List.map_congr_left fun p hp=>by rw [oq hen (h p hp)]
theorem kZ {k:List Pc} {p:Pc} (hp:p ∈ k) {m:ByteArray} (h:jp p.rg m):m ∈ fN k:=(gG _ _ _).2 (.inr ⟨p.rg,List.mem_map_of_mem hp,h⟩)
def ki (k:List Pc):List Pc:=kB (fh k) (fN k)
theorem AF (k:List Pc):Cb (fh k) (fN k):=fun _ _ hen h=>po hen (fun _ hp m hm=>h m (kZ hp hm))
theorem fF (k:List Pc):aO (ki k) ∧ ∀ s,cH (ki k) s = fh k s:=pl (oo k) (pm k) (pn k) (tZ k) (AF k)
theorem FD {k:List Pc} (h:aO k):ki k = k:=I2 (oo k) (pm k) (pn k) (tZ k) (AF k) h (fun s=>(dA h s).symm)
end Go.Proofs.YtembiemaiacdfaaGreat
namespace Go.Proofs.YtembiemaiacdfaaGreat
open Go.RowKit Go.Shelf
abbrev wt (l:List UInt8):ByteArray:=⟨l.toArray⟩
abbrev k0 (s:ByteArray):List UInt8:=s.data.toList
theorem pq (s:ByteArray):wt (k0 s) = s:=by cases s;rfl
def fQ (l:List ByteArray):List ByteArray:=(Lib.compact (l.map k0)).map wt
section
variable {d:Array (List UInt8)}
theorem t8:∀ (m:Nat) (x:List UInt8),x ∈ Lib.compactUpTo d m ↔ ∃ j,j < m ∧ d[j]! = x:=by
 intro m
 induction m with
 | zero=>intro x;simp [Lib.compactUpTo]
 | succ m ih=>
   intro x
   rw [Lib.compactUpTo_succ,List.mem_append,ih]
   by_cases k:Lib.keeps d m = true
   · rw [if_pos k]
     constructor
     · rintro (⟨j,h1,h2⟩|h)
       · exact ⟨j,by omega,h2⟩
       · exact ⟨m,by omega,by simpa using Eq.symm (List.mem_singleton.1 h)⟩
     · rintro ⟨j,h1,h2⟩
       rcases Nat.lt_or_ge j m with q|q
       · exact .inl ⟨j,q,h2⟩
       · obtain rfl:j = m:=by omega
         exact .inr (by rw [h2];exact List.mem_singleton.2 rfl)
   · rw [if_neg k]
     constructor
     · rintro (⟨j,h1,h2⟩|h)
       · exact ⟨j,by omega,h2⟩
       · cases h
     · rintro ⟨j,h1,h2⟩
       rcases Nat.lt_or_ge j m with q|q
       · exact .inl ⟨j,q,h2⟩
       · obtain rfl:j = m:=by omega
         have:¬ (j = 0 ∨ d[j]! ≠ d[j - 1]!):=by
           intro z;exact k (by unfold Lib.keeps;exact decide_eq_true z)
         have h3:d[j]! = d[j - 1]!:=Classical.byContradiction fun z=>this (.inr z)
         exact .inl ⟨j - 1,by omega,by rw [← h3];exact h2⟩
theorem KP (h:∀ i j,i < j → j < d.size → ¬ wt d[j]! < wt d[i]!):∀ m,m ≤ d.size → ((Lib.compactUpTo d m).map wt).Pairwise (· < ·):=by
 intro m
 induction m with
 | zero=>intro _;simp [Lib.compactUpTo]
 | succ m ih=>
   intro hm
   have h1:=ih (by omega)
   rw [Lib.compactUpTo_succ]
   by_cases k:Lib.keeps d m = true
   · rw [if_pos k,List.map_append,List.pairwise_append]
     refine ⟨h1,by simp,fun x hx y hy=>?_⟩
     have hy:y = wt d[m]!:=by simpa using hy
     subst hy
     obtain ⟨z,hz,rfl⟩:=List.mem_map.1 hx
     obtain ⟨j,hj,rfl⟩:=(t8 m z).1 hz
     have k':m = 0 ∨ d[m]! ≠ d[m - 1]!:=by unfold Lib.keeps at k;exact of_decide_eq_true k
     have a:=h (m - 1) m (by omega) (by omega)
     have ne:wt d[m]! ≠ wt d[m - 1]!:=fun e=>by
       rcases k' with q|q
       · omega
       · exact q (by have:=congrArg k0 e;exact this)
     rcases Nat.lt_or_ge j (m - 1) with q|q
     · have b:=h j (m - 1) q (by omega)
       grind
     · obtain rfl:j = m - 1:=by omega
       grind
   · rw [if_neg k,List.append_nil]
     exact h1
end
theorem y5 {l:List ByteArray} (h:l.Pairwise (fun x y=>¬ y < x)):uL (fQ l) ∧ ∀ s,s ∈ fQ l ↔ s ∈ l:=by
 have get:∀ i (hi:i < l.length),(l.map k0).toArray[i]! = k0 l[i]:=fun i hi=>by
   rw [getElem!_pos _ i (by simpa using hi)];simp
 unfold fQ Lib.compact
 refine ⟨KP (fun i j hij hj=>?_) _ (by simp),fun s=>?_⟩
 · have hj:j < l.length:=by simpa using hj
   rw [get i (by omega),get j hj,pq,pq]
   exact List.pairwise_iff_getElem.1 h i j (by omega) hj hij
 · rw [List.mem_map]
   constructor
   · rintro ⟨x,hx,rfl⟩
     obtain ⟨j,hj,rfl⟩:=(t8 _ _).1 hx
     have hj:j < l.length:=by simpa using hj
     rw [get j hj,pq]
     exact List.getElem_mem hj
   · intro hs
     obtain ⟨i,hi,rfl⟩:=List.getElem_of_mem hs
     exact ⟨k0 l[i],(t8 _ _).2 ⟨i,by simpa using hi,get i hi⟩,pq _⟩
theorem Ce (l:List ByteArray):(fQ l).length ≤ l.length:=by
 unfold fQ Lib.compact Lib.compactUpTo
 simp only [List.length_map]
 have:=List.length_filter_le (Lib.keeps (List.map k0 l).toArray) (List.range l.length)
 simpa using this
theorem FE {l E:List ByteArray} (h:∀ s ∈ l,s.size ≤ 1000000000000) (hu:uL E) (hm:∀ s,s ∈ E ↔ s ∈ l):fQ (l5 l) = E:=by
 obtain ⟨h1,h2⟩:=qh h
 obtain ⟨h3,h4⟩:=y5 h2
 exact Fs h3 hu (fun s=>by rw [h4,h1.mem_iff,hm])
def coCompS_ren:Go.Shelf.Ren:=⟨fun|194=>147|n=>n,fun|0=>0|3=>3|4=>4|9=>9|31=>139|n=>n,fun n=>n⟩
theorem I4 (h:Tryz.f147 = Body.n194 coCompS_ren):Lays.n194 Tryz.prog coCompS_ren:={ mixed:=by kernel_rfl,f194:=Tryz.func147.trans (congrArg some h),t0:=Tryz.underlying0,a0:=Tryz.isAgg0,z0:=Tryz.sizeOf0,v0:=Tryz.zeroValue0,t3:=Tryz.underlying3,a3:=Tryz.isAgg3,z3:=Tryz.sizeOf3,v3:=Tryz.zeroValue3,t4:=Tryz.underlying4,a4:=Tryz.isAgg4,z4:=Tryz.sizeOf4,v4:=Tryz.zeroValue4,t9:=Tryz.underlying9,a9:=Tryz.isAgg9,z9:=Tryz.sizeOf9,v9:=Tryz.zeroValue9,t31:=Tryz.underlying139,a31:=Tryz.isAgg139,z31:=Tryz.sizeOf139,v31:=Tryz.zeroValue139 }
theorem FF (l:List ByteArray) (hl:l.length ≤ 1000000000) :
   el Tryz.prog 147 [.row 2000 0] [(2000,.row 9 1 (l.map strP))] (.row 3000 0) [(3000,.row 9 1 ((fQ l).map strP))]:=by
 refine ⟨qj Tryz.func147 (by kernel_rfl) (by kernel_rfl),?_⟩
 intro C w vs hW hN hO hvl hvs hb
 obtain ⟨v0,rfl⟩:∃ v0,vs = [v0]:=by match vs,hvl with|[a],_=>exact ⟨a,rfl⟩
 have h0:=hvs 0 v0 _ rfl rfl
 have e0:v0 = C.G0.rh 2000:=h0.2 rfl
 subst e0
 have hrow:=hb 2000
 have L:=I4 (by kernel_rfl)
 rcases hrow with ⟨q1,q2⟩|⟨cap,cs,q1,q2,q3,q4,q5,q6,q7⟩
 · have hl0:l = []:=by simpa using q2
   rw [q1]
   refine (Any.slices_Compact_string_empty L none 0 w).mono ?_
   rintro e' w' ⟨rfl,rfl⟩
   refine ⟨_,⟨C.G0.ow,C.G0.ph,fun i=>if i = 3000 then .slice none 0 0 else C.G0.rh i⟩,rfl,⟨rfl,rfl,rfl,Nat.le_refl _,fun _ _ _=>rfl,fun b id h=>⟨(hO b id h).1,.inr (hO b id h).2⟩,fun id hf=>⟨rfl,?_⟩⟩,⟨Nat.le_refl _,fun _=>rfl⟩,fun id=>?_⟩
   · by_cases q:id = 3000
     · subst q;cases hf
     · exact if_neg q
   · by_cases hid:id = 3000
     · subst hid
       exact .inl ⟨rfl,by rw [hl0];rfl⟩
     · rw [show dw id [(3000,Blk.row 9 1 ((fQ l).map strP))] = .none by simp [dw,ep hid]];trivial
 · rw [List.length_map] at q1 q4
   obtain ⟨b,hb0⟩:∃ b,b = C.G0.ph 2000:=⟨_,rfl⟩
   rw [← hb0] at q1 q2 q3
   have hbl:=hO b 2000 q3
   have hH:Sort.Holds encStr w b 0 (l.map k0).toArray:=by
     intro t ht
     have ht':t < l.length:=by simpa using ht
     obtain ⟨_,g⟩:=q7 t (strP l[t]) (by rw [List.getElem?_map,List.getElem?_eq_getElem ht'];rfl)
     obtain ⟨y,y1,_,y3⟩:=g 0 _ rfl
     have y3:y = .string l[t]:=y3
     subst y3
     rw [Nat.mul_one,Nat.add_zero] at y1
     rw [getElem!_pos _ t (by simpa using ht'),Nat.zero_add]
     refine ⟨?_,by simp [World.frozen?,q2]⟩
     have e:encStr ((l.map k0).toArray[t]'(by simpa using ht')) = .string l[t]:=by simp [encStr]
     rw [e]
     simp [World.cell?,q2,y1]
   have:=Any.slices_Compact_string (P:=Tryz.prog) (ρ:=coCompS_ren) L b 0 cap (l.map k0) w hH (by simp;omega) (by simpa using q4)
   rw [List.length_map] at this
   rw [q1]
   refine this.mono ?_
   have hcl:=Ce l
   have hcE:(fQ l).map k0 = Lib.compact (l.map k0):=by
     unfold fQ;rw [List.map_map];exact List.map_id' _
   have hcL:(Lib.compact (l.map k0)).length = (fQ l).length:=by rw [← hcE,List.length_map]
   rw [hcL]
   generalize Lib.compact (l.map k0) = Z at *
   rintro e' w' ⟨rfl,n,rfl⟩
   have hblock:∀ (f:Array Value → Array Value) b',b' ≠ b → (Sort.mapBlock (Sort.ahead w n) b f).heap[b']? = w.heap[b']?:=fun f b' h'=>by
     show ((w.heap.modify b (Sort.onCells f)))[b']? = _
     rw [Array.getElem?_modify,if_neg (Ne.symm h')]
   have hthis:∀ (f:Array Value → Array Value),(Sort.mapBlock (Sort.ahead w n) b f).heap[b]? = some (.cells (f cs) 9 (0,0)):=fun f=>by
     show ((w.heap.modify b (Sort.onCells f)))[b]? = _
     rw [Array.getElem?_modify,if_pos rfl,q2]
     rfl
   have hsz:∀ (f:Array Value → Array Value),w.heap.size = (Sort.mapBlock (Sort.ahead w n) b f).heap.size:=fun f=>by
     show _ = (w.heap.modify b (Sort.onCells f)).size
     simp
   unfold Sort.putRow
   generalize hF:Sort.putCells encStr 0 (Z ++ List.replicate (l.length - (fQ l).length) []).toArray = f
   refine ⟨_,⟨fun i=>if C.G0.ow i = some 2000 then some 3000 else C.G0.ow i,fun i=>if i = 3000 then b else C.G0.ph i,fun i=>if i = 3000 then .slice (some ⟨b,0,none⟩) (fQ l).length cap else C.G0.rh i⟩,rfl,
     ⟨rfl,rfl,rfl,Nat.le_of_eq (hsz f),fun b' _ h'=>hblock f b' (fun e=>h' (e ▸ hbl.2)),fun b' id h=>?_,fun id hf=>?_⟩,⟨Nat.le_refl _,fun _=>rfl⟩,fun id=>?_⟩
   · simp only at h
     have:C.G0.ow b' ≠ none:=by
       intro e;rw [if_neg (by rw [e];simp),e] at h;cases h
     obtain ⟨id',he⟩:=Option.ne_none_iff_exists'.1 this
     have:=hO b' id' he
     exact ⟨by rw [← hsz f];exact this.1,.inr this.2⟩
   · by_cases q:id = 3000
     · subst q;cases hf
     · exact ⟨if_neg q,if_neg q⟩
   · by_cases hid:id = 3000
     · subst hid
       refine .inr ⟨cap,f cs,?_,?_,?_,?_,q5,?_,?_⟩
       · simp only [if_true,List.length_map]
       · simp only [if_true];exact hthis f
       · simp only [if_true];rw [q3];rfl
       · rw [List.length_map];omega
       · rw [← hF,nZ];exact q6
       · intro i ps hi
         rw [List.getElem?_map] at hi
         obtain ⟨x,hx,rfl⟩:=Option.map_eq_some_iff.1 hi
         refine ⟨rfl,fun j A hj=>?_⟩
         obtain rfl:j = 0:=by
           have h1:j < 1:=(List.getElem?_eq_some_iff.1 hj).1
           omega
         cases hj
         obtain ⟨hi',hx'⟩:=List.getElem?_eq_some_iff.1 hx
         have hzl:Z.length = (fQ l).length:=by rw [← hcE,List.length_map]
         rw [Nat.mul_one,Nat.add_zero,← hF,put_get _ _ _ _ (by rw [q6];omega) (by simp;omega)]
         refine ⟨_,rfl,rfl,?_⟩
         show Value.string _ = Value.string x
         rw [getElem!_pos _ i (by simp;omega)]
         have e3:(Z ++ List.replicate (l.length - (fQ l).length) []).toArray[i]'(by simp;omega) = k0 x:=by
           have hiz:i < Z.length:=by omega
           have e4:Z[i]'hiz = k0 x:=by
             have:(fQ l).map k0 = Z:=hcE
             subst this
             rw [List.getElem_map,hx']
           rw [List.getElem_toArray,List.getElem_append_left hiz,e4]
         rw [e3]
     · rw [show dw id [(3000,Blk.row 9 1 ((fQ l).map strP))] = .none by simp [dw,ep hid]];trivial
section
theorem nd (r:Rg) (s:ByteArray) (hs:s.size ≤ 1000000000):Fn Tryz.prog 99 [Hs r,sC s] (bO (bL r s)):=by
 have h1:=fd r
 obtain ⟨lo,hi,op⟩:=r
 have hR:=bH ⟨lo,hi,op⟩
 have hH:bL ⟨lo,hi,op⟩ s = (eJ ⟨lo,hi,op⟩ && (decide (lo ≤ s) && (op || decide (s < hi)))):=rfl
 generalize bL ⟨lo,hi,op⟩ s = b at *
 generalize eJ ⟨lo,hi,op⟩ = q at *
 subst hH
 show Fn Tryz.prog _ [.per (bP [aq (.string lo),aq (.string hi),aq (.bool op)]),sC s] (bO _)
 cases q with
 | false=>
   refine fi Tryz.func99 Tryz.ntmps99 ?_
   (have kc1:=h1;refine w0 ?_;(repeat' first|refine W2.mk ?_ ?_|refine W1.mk fun hc=>?_);all_goals clear kc1)
   refine aQ ?_
   exact af rfl rfl
 | true=>
   have hlo:=(hR.1 rfl).1
   simp only at hlo
   clear hR
   have h2:=e7 lo s (by omega)
   have h3:=e7 s hi (by omega)
   by_cases q1:bG lo s ≤ 0
   · rw [decide_eq_true (show lo ≤ s from q1)]
     cases op with
     | true=>
       refine fi Tryz.func99 Tryz.ntmps99 ?_
       (have kc1:=h1;have kf1:=h2;have kf2:=h3;refine w0 ?_;(repeat' first|refine W2.mk ?_ ?_|refine W1.mk fun hc=>?_);all_goals clear kf2 kf1 kc1)
       refine aQ ?_
       exact af rfl rfl
     | false=>
       refine fi Tryz.func99 Tryz.ntmps99 ?_
       (have kc1:=h1;have kf1:=h2;have kf2:=h3;refine w0 ?_;(repeat' first|refine W2.mk ?_ ?_|refine W1.mk fun hc=>?_);all_goals clear kf2 kf1 kc1)
       refine aQ ?_
       exact af rfl rfl
   · rw [decide_eq_false (show ¬ lo ≤ s from q1)]
     refine fi Tryz.func99 Tryz.ntmps99 ?_
     (have kc1:=h1;have kc2:=h2;refine w0 ?_;(repeat' first|refine W2.mk ?_ ?_|refine W1.mk fun hc=>?_);all_goals clear kc2 kc1)
     refine aQ ?_
     exact af rfl rfl
theorem ot (r:Rg) (s:ByteArray) (hs:s.size ≤ 1000000000):Fn Tryz.prog 86 [Hs r,sC s] (bO (bL r s)):=by
 have h1:=jb r
 obtain ⟨lo,hi,op⟩:=r
 have hR:=bH ⟨lo,hi,op⟩
 have hH:bL ⟨lo,hi,op⟩ s = (eJ ⟨lo,hi,op⟩ && (decide (lo ≤ s) && (op || decide (s < hi)))):=rfl
 generalize bL ⟨lo,hi,op⟩ s = b at *
 generalize eJ ⟨lo,hi,op⟩ = q at *
 subst hH
 show Fn Tryz.prog _ [.per (bP [aq (.string lo),aq (.string hi),aq (.bool op)]),sC s] (bO _)
 cases q with
 | false=>
   refine fi Tryz.func86 Tryz.ntmps86 ?_
   (have kc1:=h1;refine w0 ?_;(repeat' first|refine W2.mk ?_ ?_|refine W1.mk fun hc=>?_);all_goals clear kc1)
   refine aQ ?_
   exact af rfl rfl
 | true=>
   have hlo:=(hR.1 rfl).1
   simp only at hlo
   clear hR
   have h2:=eR s lo (by omega)
   have h3:=eR s hi (by omega)
   by_cases q1:bG s lo < 0
   · rw [decide_eq_false (show ¬ lo ≤ s by have:=(eM s lo).1 q1;grind)]
     rw [decide_eq_true q1] at h2
     refine fi Tryz.func86 Tryz.ntmps86 ?_
     (have kc1:=h1;have kc2:=h2;refine w0 ?_;(repeat' first|refine W2.mk ?_ ?_|refine W1.mk fun hc=>?_);all_goals clear kc2 kc1)
     refine aQ ?_
     exact af rfl rfl
   · rw [decide_eq_true (show lo ≤ s by rw [eM] at q1;grind)]
     rw [decide_eq_false q1] at h2
     cases op with
     | true=>
       refine fi Tryz.func86 Tryz.ntmps86 ?_
       (have kc1:=h1;have kc2:=h2;refine w0 ?_;(repeat' first|refine W2.mk ?_ ?_|refine W1.mk fun hc=>?_);all_goals clear kc2 kc1)
       refine aQ ?_
       exact af rfl rfl
     | false=>
       refine fi Tryz.func86 Tryz.ntmps86 ?_
       (have kc1:=h1;have kf1:=h2;have kf2:=h3;refine w0 ?_;(repeat' first|refine W2.mk ?_ ?_|refine W1.mk fun hc=>?_);all_goals clear kf2 kf1 kc1)
       refine aQ ?_
       exact af rfl rfl
theorem k4 (l:List Rg) (s:ByteArray) (hl:l.length ≤ 1000000000) (hs:s.size ≤ 1000000000):Fn Tryz.prog 43 [dg l,sC s] (bO (bg l s)):=by
 generalize hb:bg l s = b
 refine fi Tryz.func43 Tryz.ntmps43 ?_
 (refine w0 ?_;(repeat' first|refine W2.mk ?_ ?_|refine W1.mk fun hc=>?_))
 refine ah (X:=Nat) (fun z=>z ≤ l.length ∧ bg (l.drop z) s = b)
   (fun z=>aN [(0,dg l),(1,sC s),(5,iC .i64 (z:Nat))] []) (fun z=>l.length - z) 0 ⟨Nat.zero_le _,by rw [List.drop_zero];exact hb⟩ ?_ ?_
 · exact ab
 · rintro z ⟨h1,h2⟩
   by_cases hz:z < l.length
   · have h3:=ot l[z] s hs
     rw [List.drop_eq_getElem_cons hz,bg,List.any_cons] at h2
     cases hr:bL l[z] s with
     | true=>
       rw [hr] at h3 h2
       rw [Bool.true_or] at h2
       subst h2
       clear hb
       (have kc1:=h3;refine w0 ?_;(repeat' first|refine W2.mk ?_ ?_|refine W1.mk fun hc=>?_);all_goals clear kc1)
       refine aQ ?_
       exact af rfl rfl
     | false=>
       rw [hr] at h3 h2
       rw [Bool.false_or] at h2
       clear hb
       (have kc1:=h3;refine w0 ?_;(repeat' first|refine W2.mk ?_ ?_|refine W1.mk fun hc=>?_);all_goals clear kc1)
       refine ⟨z + 1,⟨by omega,h2⟩,by omega,?_⟩
       exact ab
   · obtain rfl:z = l.length:=by omega
     rw [List.drop_length] at h2
     simp only [bg,List.any_nil] at h2
     subst h2
     clear hb
     (refine w0 ?_;(repeat' first|refine W2.mk ?_ ?_|refine W1.mk fun hc=>?_))
     refine aQ ?_
     exact af rfl rfl
theorem Cf (x y:Rg) (hx:eJ x = true) (hy:eJ y = true):Fn Tryz.prog 145 [Hs x,Hs y] (fL (Ca x y)):=by
 have h1:=fd x
 have h2:=fd y
 have hR:=(bH x).1 hx
 rw [hx] at h1
 rw [hy] at h2
 clear hx hy
 obtain ⟨lo,hi,op⟩:=x
 obtain ⟨lo',hi',op'⟩:=y
 have hhi:=hR.2.1
 simp only at hhi
 clear hR
 have h3:=e7 hi hi' (by omega)
 have hE:Ca ⟨lo,hi,op⟩ ⟨lo',hi',op'⟩ = (if op && op' then 0 else if op then 1 else if op' then -1 else bG hi hi'):=rfl
 rw [hE]
 show Fn Tryz.prog _ [.per (bP [aq (.string lo),aq (.string hi),aq (.bool op)]),.per (bP [aq (.string lo'),aq (.string hi'),aq (.bool op')])] (fL _)
 cases op <;> cases op'
 all_goals
   refine fi Tryz.func145 Tryz.ntmps145 ?_
   (have kf1:=h1;have kf2:=h2;have kc1:=h3;refine w0 ?_;(repeat' first|refine W2.mk ?_ ?_|refine W1.mk fun hc=>?_);all_goals clear kc1 kf2 kf1)
   refine aQ ?_
   exact aA rfl rfl
end
def Cg (f:FuncId) (As:List PV):PV:=⟨fun N w v=>∃ xs:List Value,v = .func (.func f) #[] xs.toArray ∧ xs.length = As.length ∧ ∀ (j:Nat) (x:Value) (A:PV),xs[j]? = some x → As[j]? = some A → A.p N w x,
 fun h1 h2 h3 ⟨xs,e,l,h⟩=>⟨xs,e,l,fun j x A a b=>A.mono h1 h2 h3 (h j x A a b)⟩⟩
section
variable {P:Program} {n t:Nat} {ops:Array Oper} {o:Oper} {F:List Nat} {S:St}
theorem AG {f:FuncId} {x:Operand} {A:PV} (hp:Pl n o t) (ho:o.op = .makeFunc (.func f) #[] #[x]) (hx:S.opd x = .per A):an n P ops o (ax x) (.per (Cg f [A])) [] S:=
 aP hp fun C T g a w hA hR=>⟨.func (.func f) #[] #[a.eval x],by simp [execOp,ho,Instr.makeFunc],[a.eval x],rfl,rfl,fun j v B h1 h2=>by
   have h:=aB (x:=x) hA (fun k h=>by simp [h]) hR
   rw [hx] at h
   match j with
   | 0=>cases h1;cases h2;exact h
   | j + 1=>cases h1⟩
theorem AH {f:FuncId} {x y:Operand} {A B:PV} (hp:Pl n o t) (ho:o.op = .makeFunc (.func f) #[] #[x,y]) (hx:S.opd x = .per A) (hy:S.opd y = .per B):an n P ops o (ax x ++ ax y) (.per (Cg f [A,B])) [] S:=
 aP hp fun C T g a w hA hR=>⟨.func (.func f) #[] #[a.eval x,a.eval y],by simp [execOp,ho,Instr.makeFunc],[a.eval x,a.eval y],rfl,rfl,fun j v B' h1 h2=>by
   have h:=aB (x:=x) hA (fun k h=>by simp [h]) hR
   have h':=aB (x:=y) hA (fun k h=>by simp [h]) hR
   rw [hx] at h
   rw [hy] at h'
   match j with
   | 0=>cases h1;cases h2;exact h
   | 1=>cases h1;cases h2;exact h'
   | j + 2=>cases h1⟩
theorem Ch {x0:Operand} {f:FuncId} {As:List PV} (hx:S.opd x0 = .per (Cg f As)) (hF:∀ k ∈ ax x0,k ∈ F):tE F S x0 f (As.map .per):=fun n C T g a w hA hR=>by
 have h:=aB (x:=x0) hA hF hR
 rw [hx] at h
 obtain ⟨xs,e,l,h⟩:=h
 refine ⟨xs,e,by rw [l,List.length_map],fun j v c h1 h2=>?_⟩
 rw [List.getElem?_map] at h2
 obtain ⟨A,hA',rfl⟩:=Option.map_eq_some_iff.1 h2
 exact h j v A h1 hA'
theorem I5 {bo:Bool} {ρ:Nat → Option Nat} {old new:Nat → Nat} (As:List PV):(As.map Cnt.per).map (Cnt.mp bo ρ old new) = As.map Cnt.per:=by
 rw [List.map_map];exact List.map_congr_left fun _ _=>rfl
theorem jF {f:FuncId} {x0:Operand} {xs:List Operand} (Bs:List Cnt) {As:List PV} {full:List Cnt} {r:Cnt} (hf:el P f full [] r []) (hfl:Bs ++ As.map Cnt.per = full:=by rfl) (hp:BK n o:=by exact ⟨rfl,rfl⟩) (ho:gZ o x0 xs:=by exact ⟨_,rfl⟩) (hx:S.opd x0 = .per (Cg f As):=by rfl)
   (hg:oO S [] xs Bs:=by first|((repeat (first|exact oO.nil|(refine oO.cons ?_ ?_;focus (first|exact mg rfl|exact gq_lst rfl|exact gq_row rfl rfl rfl rfl|exact mh rfl|exact gq_nil rfl|exact gq_nil' rfl|exact kQ rfl rfl))));done)|fail):an n P ops o (ax x0 ++ (ed S xs ++ yi [])) (r.mp false (iQ []) z0 (rx S.ver [])) (kM S [] [] []) S:=
 jw (cs:=As.map .per) [] hp ho (Ch hx (fun k h=>by simp [h])) (by rw [I5,hfl];exact hf) rfl (fun p h=>by cases h) (hg.gives (fun _ h=>by simp at h ⊢;exact .inr (.inl h)) (fun _ h=>by simp [h])) .nil
end
def b0 (k:List Pc):Prop:=k.length ≤ 1000000 ∧ (k.flatMap Pc.set).length ≤ 1000000 ∧ ((k.flatMap Pc.set).flatMap Kn.runs).length ≤ 1000000
def gH (s:ByteArray) (p:Pc):List Kn:=if bL p.rg s then p.set else []
theorem qw {α β:Type} {f g:α → List β} (h:∀ x,(f x).Sublist (g x)):∀ l:List α,(l.flatMap f).Sublist (l.flatMap g):=by
 intro l
 induction l with
 | nil=>exact .slnil
 | cons x l ih=>rw [List.flatMap_cons,List.flatMap_cons];exact (h x).append ih
theorem eH {α β:Type} (f:α → List β) {a b:List α} (h:a.Sublist b):(a.flatMap f).length ≤ (b.flatMap f).length:=by
 induction h with
 | slnil=>exact Nat.le_refl _
 | cons x _ ih=>rw [List.flatMap_cons,List.length_append];omega
 | cons_cons x _ ih=>rw [List.flatMap_cons,List.flatMap_cons,List.length_append,List.length_append];omega
theorem qx (s:ByteArray) (p:Pc):(gH s p).Sublist p.set:=by
 unfold gH;split
 · exact List.Sublist.refl _
 · exact List.nil_sublist _
theorem b0.has {k:List Pc} (h:b0 k) (s:ByteArray):oe (k.flatMap (gH s)):=by
 have h1:=qw (qx s) k
 have h2:=h1.length_le
 have h3:=eH Kn.runs h1
 exact ⟨by have:=h.2.1;omega,by have:=h.2.2;omega⟩
theorem ou {α β:Type} (f:α → List β) (l:List α) (z:Nat):(l.take z).flatMap f = (l.take z).flatMap f ∧ ((l.take z).flatMap f).length ≤ (l.flatMap f).length:=⟨rfl,eH f (List.take_sublist _ _)⟩
theorem ov {α β:Type} (f:α → List β) (l:List α) (z:Nat) (h:z < l.length):(l.take (z + 1)).flatMap f = (l.take z).flatMap f ++ f l[z]:=by
 rw [List.take_succ_eq_append_getElem h,List.flatMap_append,List.flatMap_cons,List.flatMap_nil,List.append_nil]
theorem eU {α β:Type} (f:α → List β) {l:List α} {x:α} (h:x ∈ l):(f x).length ≤ (l.flatMap f).length:=by
 induction l with
 | nil=>cases h
 | cons y l ih=>
   rw [List.flatMap_cons,List.length_append]
   rcases List.mem_cons.1 h with rfl|h
   · omega
   · have:=ih h;omega
section
theorem J7 (k:List Pc) (s:ByteArray) (hk:b0 k) (hs:s.size ≤ 1000000000):Fn Tryz.prog 95 [bS k,sC s] (kx (fh k s)):=by
 have hk1:=hk.1
 have hO:=IZ (k.flatMap (gH s)) (hk.has s).tot
 rw [show em ofR (k.flatMap (gH s)) = fh k s from rfl] at hO
 generalize fh k s = R at *
 refine fi Tryz.func95 Tryz.ntmps95 ?_
 (refine w0 ?_;(repeat' first|refine W2.mk ?_ ?_|refine W1.mk fun hc=>?_))
 refine ck (bz 5 700 130 2 rfl rfl) ?_
 refine ah (X:=Nat) (fun z=>z ≤ k.length)
   (fun z=>aN [(1,sC s),(5,.row 700 0),(8,bS k),(9,iC .i64 (k.length:Nat)),(10,iC .i64 ((z:Nat):Int))] [(700,.row 130 2 (((k.take z).flatMap (gH s)).map Ap))]) (fun z=>k.length - z) 0 (Nat.zero_le _) ?_ ?_
 · exact ab
 · intro z hz
   by_cases hlt:z < k.length
   · have hsn:=ov (gH s) k z hlt
     have h1:=(ou (gH s) k z).2
     have h2:=(hk.has s).1
     have h3:=eU Pc.set (List.getElem_mem hlt)
     have h4:=hk.2.1
     have c1:=nd k[z].rg s hs
     generalize (k.take z).flatMap (gH s) = A at *
     unfold gH at hsn
     clear hk
     cases c:bL k[z].rg s with
     | true=>
       rw [c] at c1 hsn
       rw [if_pos rfl] at hsn
       (have kc1:=c1;refine w0 ?_;(repeat' first|refine W2.mk ?_ ?_|refine W1.mk fun hc=>?_);all_goals clear kc1)
       refine ⟨z + 1,hlt,by omega,ak (aM 700 701) (ak (aM 701 700) ?_)⟩
       rw [show (k.take (z + 1)).flatMap (gH s) = _ from hsn]
       exact ab
     | false=>
       rw [c] at c1 hsn
       rw [if_neg (by simp),List.append_nil] at hsn
       (have kc1:=c1;refine w0 ?_;(repeat' first|refine W2.mk ?_ ?_|refine W1.mk fun hc=>?_);all_goals clear kc1)
       refine ⟨z + 1,hlt,by omega,?_⟩
       rw [show (k.take (z + 1)).flatMap (gH s) = _ from hsn]
       exact ab
   · rw [List.take_of_length_le (show k.length ≤ z by omega)]
     clear hk
     generalize k.flatMap (gH s) = A at *
     (have kc1:=hO;refine w0 ?_;(repeat' first|refine W2.mk ?_ ?_|refine W1.mk fun hc=>?_);all_goals clear kc1)
     refine aQ ?_
     exact cv rfl rfl rfl
def rawE (p:Pc):List ByteArray:=if eJ p.rg then (if p.rg.op then [p.rg.lo] else [p.rg.lo,p.rg.hi]) else []
theorem wu (p:Pc) (m:ByteArray):m ∈ rawE p ↔ jp p.rg m:=by
 unfold rawE jp
 by_cases c:eJ p.rg = true
 · rw [if_pos c]
   cases o:p.rg.op with
   | true=>simp [c]
   | false=>simp [c]
 · rw [if_neg c]
   simp [c]
theorem wv (k:List Pc) (m:ByteArray):m ∈ k.flatMap rawE ↔ ∃ r ∈ bB k,jp r m:=by
 unfold bB
 rw [List.mem_flatMap]
 constructor
 · rintro ⟨p,hp,h⟩
   exact ⟨p.rg,List.mem_map_of_mem hp,(wu p m).1 h⟩
 · rintro ⟨r,hr,h⟩
   obtain ⟨p,hp,rfl⟩:=List.mem_map.1 hr
   exact ⟨p,hp,(wu p m).2 h⟩
theorem FG (p:Pc):(rawE p).length ≤ 2:=by unfold rawE;split;split <;> simp;simp
theorem ox:∀ k:List Pc,(k.flatMap rawE).length ≤ 2 * k.length:=by
 intro k
 induction k with
 | nil=>simp
 | cons p k ih=>rw [List.flatMap_cons,List.length_append,List.length_cons];have:=FG p;omega
theorem ua {k:List Pc} {m:ByteArray} (h:m ∈ emB :: k.flatMap rawE):m.size ≤ 1000000000000:=by
 rcases List.mem_cons.1 h with rfl|h
 · decide
 · obtain ⟨r,_,c,q⟩:=(wv k m).1 h
   have:=(bH r).1 c
   rcases q with q|⟨_,q⟩ <;> rw [q] <;> omega
theorem Ci (k:List Pc):fQ (l5 (emB :: k.flatMap rawE)) = fN k:=
 FE (fun _ h=>ua h) (pm k) (fun s=>by
   unfold fN
   rw [gG,List.mem_cons (a:=s) (b:=emB) (l:=k.flatMap rawE),wv,List.mem_singleton])
abbrev gM (l:List Pc):Cnt:=.per (ff l)
abbrev MQ (l:List ByteArray):Blk:=.row 9 1 (l.map strP)
theorem ww (ls:List (List Pc)) (hl:ls.length ≤ 1000) (hk:ls.flatten.length ≤ 1000000):Fn Tryz.prog 93 [.bor 1 (ls.map fun k=>[ff k])] (.own 9 1 ((fN ls.flatten).map strP)):=by
 have hsort:=Ci ls.flatten
 have hlen:=ox ls.flatten
 have s1:=E6 (emB :: ls.flatten.flatMap rawE) (fun s h=>ua h) (by rw [List.length_cons];omega)
 have s2:=FF (l5 (emB :: ls.flatten.flatMap rawE)) (by
   have:=(qh (l:=emB :: ls.flatten.flatMap rawE) (fun s h=>ua h)).1.length_eq
   rw [this,List.length_cons];omega)
 rw [hsort] at s2
 generalize fN ls.flatten = R at *
 generalize l5 (emB :: ls.flatten.flatMap rawE) = Q at *
 clear hsort
 refine fi Tryz.func93 Tryz.ntmps93 ?_
 (repeat' (first|refine cN ?_|refine bD ?_|refine cc ?_|refine cd ?_|refine cO ?_|refine bi ?_|refine db dX ?_|refine cL ?_|refine cM (by kernel_rfl) ?_|(refine gw rfl rfl ⟨fun hc=>?_,fun hc=>?_⟩ <;> (repeat rw [List.length_map] at hc) <;> (try exact dy hc))|((first|apply aD rfl|apply aF rfl|apply aG rfl|apply aH rfl);focus (first|((apply az 15;(focus rfl);solve|(apply gX <;> first|exact ⟨rfl,rfl,rfl⟩|rfl|infer_instance|(repeat (first|exact cC.nil|(apply cC.cons;(focus (first|exact aK rfl rfl rfl|exact gq rfl|exact gr rfl))))))))|(apply bx;(focus rfl);apply ag rfl rfl rfl rfl rfl;((apply az 15;(focus rfl);solve|(apply gX <;> first|exact ⟨rfl,rfl,rfl⟩|rfl|infer_instance|(repeat (first|exact cC.nil|(apply cC.cons;(focus (first|exact aK rfl rfl rfl|exact gq rfl|exact gr rfl)))))))))|exact dY|fail))|refine ce ?_|refine cg ?_|refine ci ?_|refine d8 ?_|refine d9 ?_|refine cj ?_|refine bF rfl ?_|((first|refine gx rfl rfl rfl ⟨fun hc=>?_,fun hc=>?_⟩|refine gy rfl rfl rfl ⟨fun hc=>?_,fun hc=>?_⟩) <;> (fail_if_success (have q:(true = true):=hc)) <;> (fail_if_success (have q:(false = false):=hc)) <;> (repeat rw [List.length_map] at hc) <;> (try exact dy hc))|refine br rfl rfl (fun hc=>?_) ?_))
 refine ck (aM 8 700) ?_
 refine ah (X:=Nat) (fun z=>z ≤ ls.length)
   (fun z=>aN [(3,.row 700 0),(9,.bor 1 (ls.map fun k=>[ff k])),(10,iC .i64 (ls.length:Nat)),(11,iC .i64 ((z:Nat):Int))] [(700,MQ (emB :: (ls.take z).flatten.flatMap rawE))]) (fun z=>ls.length - z) 0 (Nat.zero_le _) ?_ ?_
 · exact ab
 · intro z hz
   by_cases hlt:z < ls.length
   · have htk:(ls.take (z + 1)).flatten = (ls.take z).flatten ++ ls[z]:=by rw [List.take_succ_eq_append_getElem hlt,List.flatten_append];simp
     have hsub:(ls.take (z + 1)).flatten.length ≤ ls.flatten.length:=by
       have:ls.flatten = (ls.take (z + 1)).flatten ++ (ls.drop (z + 1)).flatten:=by rw [← List.flatten_append,List.take_append_drop]
       rw [this,List.length_append];omega
     have hl2:=congrArg List.length htk
     rw [List.length_append] at hl2
     have hraw:(ls.take (z + 1)).flatten.flatMap rawE = (ls.take z).flatten.flatMap rawE ++ ls[z].flatMap rawE:=by rw [htk,List.flatMap_append]
     have hA:=ox (ls.take z).flatten
     generalize (ls.take z).flatten.flatMap rawE = A at *
     clear s1 s2 htk
     (refine w0 ?_;(repeat' first|refine W2.mk ?_ ?_|refine W1.mk fun hc=>?_))
     refine ah (X:=Nat) (fun y=>y ≤ ls[z].length)
       (fun y=>aN [(3,.row 700 0),(9,.bor 1 (ls.map fun k=>[ff k])),(10,iC .i64 (ls.length:Nat)),(11,iC .i64 ((z:Nat):Int)),(15,gM ls[z]),(16,iC .i64 (ls[z].length:Nat)),(17,iC .i64 ((y:Nat):Int))] [(700,MQ (emB :: (A ++ (ls[z].take y).flatMap rawE)))]) (fun y=>ls[z].length - y) 0 (Nat.zero_le _) ?_ ?_
     · (refine oL ?_ ?_;(focus ((repeat (first|exact iO.nil|(refine iO.cons ?_ ?_;rotate_left)));(all_goals try (first|rfl|(refine JZ ?_;first|omega|(simp;done)|(simp;omega))|(refine vy ?_;first|(simp;done)|(simp [*];done))))));(focus ((repeat (first|exact iP.nil|(refine iP.cons ?_ ?_;rotate_left)));(all_goals try (first|rfl|(refine tD ?_;(rw [List.map_append] <;> rfl);done)|(refine oM ?_;(rw [List.map_append] <;> rfl);done))))))
       rw [List.take_zero,List.flatMap_nil,List.append_nil]
       rfl
     · intro y hy
       by_cases hly:y < ls[z].length
       · have hsn:=ov rawE ls[z] y hly
         have hB:=(ou rawE ls[z] y).2
         have hB2:=ox ls[z]
         have c1:=fd ls[z][y].rg
         generalize (ls[z].take y).flatMap rawE = B at *
         unfold rawE at hsn
         cases c:eJ ls[z][y].rg with
         | false=>
           rw [c] at c1 hsn
           rw [if_neg (by simp),List.append_nil] at hsn
           (have kc1:=c1;refine w0 ?_;(repeat' first|refine W2.mk ?_ ?_|refine W1.mk fun hc=>?_);all_goals clear kc1)
           refine ⟨y + 1,hly,by omega,?_⟩
           rw [show (ls[z].take (y + 1)).flatMap rawE = _ from hsn]
           exact ab
         | true=>
           rw [c] at c1 hsn
           rw [if_pos rfl] at hsn
           cases o:ls[z][y].rg.op with
           | true=>
             rw [o,if_pos rfl] at hsn
             (have kc1:=c1;refine w0 ?_;(repeat' first|refine W2.mk ?_ ?_|refine W1.mk fun hc=>?_);all_goals clear kc1)
             all_goals first
               | (exfalso;simp [o] at hc;done)
               | (refine ⟨y + 1,hly,by omega,ak (aM 700 701) (ak (aM 701 700) ?_)⟩
                  rw [show (ls[z].take (y + 1)).flatMap rawE = _ from hsn]
                  (refine oL ?_ ?_;(focus ((repeat (first|exact iO.nil|(refine iO.cons ?_ ?_;rotate_left)));(all_goals try (first|rfl|(refine JZ ?_;first|omega|(simp;done)|(simp;omega))|(refine vy ?_;first|(simp;done)|(simp [*];done))))));(focus ((repeat (first|exact iP.nil|(refine iP.cons ?_ ?_;rotate_left)));(all_goals try (first|rfl|(refine tD ?_;(rw [List.map_append] <;> rfl);done)|(refine oM ?_;(rw [List.map_append] <;> rfl);done))))))
                  show Blk.row _ _ _ = Blk.row _ _ _
                  simp
                  try rfl)
           | false=>
             rw [o,if_neg (by simp)] at hsn
             (have kc1:=c1;refine w0 ?_;(repeat' first|refine W2.mk ?_ ?_|refine W1.mk fun hc=>?_);all_goals clear kc1)
             all_goals first
               | (exfalso;simp [o] at hc;done)
               | (refine ⟨y + 1,hly,by omega,ak (aM 700 701) (ak (aM 701 700) ?_)⟩
                  rw [show (ls[z].take (y + 1)).flatMap rawE = _ from hsn]
                  (refine oL ?_ ?_;(focus ((repeat (first|exact iO.nil|(refine iO.cons ?_ ?_;rotate_left)));(all_goals try (first|rfl|(refine JZ ?_;first|omega|(simp;done)|(simp;omega))|(refine vy ?_;first|(simp;done)|(simp [*];done))))));(focus ((repeat (first|exact iP.nil|(refine iP.cons ?_ ?_;rotate_left)));(all_goals try (first|rfl|(refine tD ?_;(rw [List.map_append] <;> rfl);done)|(refine oM ?_;(rw [List.map_append] <;> rfl);done))))))
                  show Blk.row _ _ _ = Blk.row _ _ _
                  simp
                  try rfl)
       · rw [List.take_of_length_le (show ls[z].length ≤ y by omega)]
         rw [← hraw]
         (refine w0 ?_;(repeat' first|refine W2.mk ?_ ?_|refine W1.mk fun hc=>?_))
         refine ⟨z + 1,hlt,by omega,?_⟩
         exact ab
   · rw [List.take_of_length_le (show ls.length ≤ z by omega)]
     (have km1:=(show bv [(1000,700)] _ _ _ _ _ _ from s1);have km2:=(show bv [(2000,700),(3000,800)] _ _ _ _ _ _ from s2);refine w0 ?_;(repeat' first|refine W2.mk ?_ ?_|refine W1.mk fun hc=>?_);all_goals clear km2 km1)
     refine aQ ?_
     exact cv rfl rfl rfl
end
end Go.Proofs.YtembiemaiacdfaaGreat
