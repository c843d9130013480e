/- Texts joined: KnP SoP Span Clo KnW. -/
import Derived.Test.YtembiemaiacdfaaGreatJ15
import Derived.Test.YtembiemaiacdfaaGreatJ05
import Derived.Test.YtembiemaiacdfaaGreatJ12
import Derived.Shelf.Slices.CompactS
import Derived.Test.YtembiemaiacdfaaGreatJ14
set_option maxRecDepth 10000
set_option maxHeartbeats 8000000
namespace Go.Proofs.YtembiemaiacdfaaGreat
theorem gZ:bX []:=fun i hi=>by simp at hi
theorem l7 (k:Kn) (l:List Kn):bX (k :: l) ↔ (1 ≤ k.rep ∧ k.rep ≤ 16 ∧ k.runs ≠ [] ∧ cH k.runs) ∧ (∀ q,l.head? = some q → k.rep < q.rep) ∧ bX l:=by
 constructor
 · intro h
   have h0:=h 0 (by simp) (by simp)
   refine ⟨⟨h0.1,h0.2.1,h0.2.2.1,h0.2.2.2.1⟩,fun q hq=>?_,fun i hi hi'=>?_⟩
   · cases l with
     | nil=>cases hq
     | cons z l=>
       cases hq
       exact (h 1 (by simp) (by simp)).2.2.2.2 (by omega)
   · have h1:=h (i + 1) (by simpa using hi) (by simpa using hi)
     simp only [List.getElem_cons_succ,Nat.add_sub_cancel] at h1
     refine ⟨h1.1,h1.2.1,h1.2.2.1,h1.2.2.2.1,fun h0=>?_⟩
     have h2:=h1.2.2.2.2 (by omega)
     obtain ⟨j,rfl⟩:∃ j,i = j + 1:=⟨i - 1,by omega⟩
     exact h2
 · rintro ⟨⟨h1,h2,h2',h2''⟩,h3,h4⟩ i hi hi'
   cases i with
   | zero=>exact ⟨h1,h2,h2',h2'',fun q=>absurd q (Nat.lt_irrefl _)⟩
   | succ i=>
     have h5:=h4 i (by simpa using hi) (by simpa using hi)
     simp only [List.getElem_cons_succ,Nat.add_sub_cancel]
     refine ⟨h5.1,h5.2.1,h5.2.2.1,h5.2.2.2.1,fun _=>?_⟩
     cases i with
     | zero=>
       cases l with
       | nil=>simp at hi
       | cons z l=>exact h3 z rfl
     | succ i=>exact h5.2.2.2.2 (by omega)
theorem x9:∀ (T:List (List Rn)) (i:Nat),i + T.length ≤ 16 → bX (aX ofR i T) ∧ ∀ q,(aX ofR i T).head? = some q → (i:Int) < q.rep:=by
 intro T
 induction T with
 | nil=>intro i _;exact ⟨gZ,fun q hq=>by cases hq⟩
 | cons l T ih=>
   intro i hi
   rw [List.length_cons] at hi
   obtain ⟨h1,h2⟩:=ih (i + 1) (by omega)
   rw [aX]
   by_cases c:(ofR l).length = 0
   · rw [if_pos c,List.nil_append]
     exact ⟨h1,fun q hq=>by have:=h2 q hq;omega⟩
   · rw [if_neg c]
     refine ⟨(l7 _ _).2 ⟨⟨by simp only;omega,by simp only;omega,fun e=>c (by simp only at e;rw [e];rfl),lX l⟩,fun q hq=>?_,h1⟩,fun q hq=>?_⟩
     · have:=h2 q hq;simp only;omega
     · cases hq;simp only;omega
theorem zJ (s:List Kn):bX (fa ofR s):=(x9 _ 0 (by rw [bg];omega)).1
theorem ye:∀ (T:List (List Rn)) (i:Nat),(∀ l ∈ T,cH l) → aX ofR i T = aX id i T:=by
 intro T
 induction T with
 | nil=>intro i _;rfl
 | cons l T ih=>
   intro i h
   rw [aX,aX,xU (h l (by simp)),ih _ (fun l hl=>h l (List.mem_cons_of_mem _ hl))]
   rfl
theorem mX {s:List Kn} (h:bX s):fa ofR s = s:=by
 have:=qn s h
 unfold fa at this ⊢
 rw [ye _ _ (r6 h)]
 exact this
theorem yf:∀ (T:List (List Rn)) (i r:Nat),aQ (aX ofR i T) r = if h:i ≤ r ∧ r - i < T.length then ofR (T[r - i]'h.2) else []:=by
 intro T
 induction T with
 | nil=>intro i r;rw [dif_neg (by simp)];rfl
 | cons l T ih=>
   intro i r
   rw [aX]
   have happ:∀ a b:List Kn,aQ (a ++ b) r = aQ a r ++ aQ b r:=fun a b=>by unfold aQ;rw [List.flatMap_append]
   rw [happ,ih]
   have hhead:aQ (if (ofR l).length = 0 then [] else [⟨(i:Int) + 1,ofR l⟩]) r = if i = r then ofR l else []:=by
     by_cases c:(ofR l).length = 0
     · rw [if_pos c]
       split
       · exact (List.eq_nil_of_length_eq_zero c).symm
       · rfl
     · rw [if_neg c]
       unfold aQ
       simp only [List.flatMap_cons,List.flatMap_nil,List.append_nil]
       by_cases e:i = r
       · rw [if_pos (by omega),if_pos e]
       · rw [if_neg (by omega),if_neg e]
   rw [hhead]
   by_cases e:i = r
   · subst e
     rw [if_pos rfl,dif_neg (by omega),List.append_nil,dif_pos ⟨Nat.le_refl _,by simp⟩]
     simp
   · rw [if_neg e,List.nil_append]
     by_cases c:i + 1 ≤ r ∧ r - (i + 1) < T.length
     · rw [dif_pos c,dif_pos ⟨by omega,by rw [List.length_cons];omega⟩]
       obtain ⟨d,hd⟩:∃ d,r - i = d + 1:=⟨r - i - 1,by omega⟩
       have hd':r - (i + 1) = d:=by omega
       simp only [hd,hd',List.getElem_cons_succ]
     · rw [dif_neg c,dif_neg (by rw [List.length_cons];omega)]
theorem l8 (s:List Kn):bT (fa ofR s) = (bT s).map ofR:=by
 apply List.ext_getElem?
 intro i
 by_cases hi:i < 16
 · have hT:=bg s
   rw [bQ _ hi,List.getElem?_map,bQ _ hi]
   unfold fa
   rw [yf,dif_pos ⟨Nat.zero_le _,by omega⟩]
   have:=bQ s hi
   obtain ⟨h1,h2⟩:=List.getElem?_eq_some_iff.1 this
   simp only [Nat.sub_zero,h2,Option.map_some]
 · rw [List.getElem?_eq_none (by rw [bg];omega),List.getElem?_eq_none (by rw [List.length_map,bg];omega)]
def oB (g:List Rn → List Rn → List Rn) (a b:List Kn):List Kn:=aX id 0 (List.zipWith g (bT a) (bT b))
def K1 (a b:List Rn):List Rn:=Ie (tz (fun x y=>x || y) a b) a b
theorem EJ (a b:List Rn):K1 a b = ofR (a ++ b):=J9 a b
theorem oC:∀ (T:List (List Rn)) (i:Nat),aX id i (T.map ofR) = aX ofR i T:=by
 intro T
 induction T with
 | nil=>intro i;rfl
 | cons l T ih=>intro i;rw [List.map_cons,aX,aX,ih];rfl
theorem sb (a b:List Kn):bT (a ++ b) = List.zipWith (· ++ ·) (bT a) (bT b):=by
 apply List.ext_getElem?
 intro i
 by_cases hi:i < 16
 · rw [bQ _ hi,List.getElem?_zipWith,bQ _ hi,bQ _ hi]
   simp only
   unfold aQ
   rw [List.flatMap_append]
 · rw [List.getElem?_eq_none (by rw [bg];omega),List.getElem?_eq_none (by rw [List.length_zipWith,bg,bg];omega)]
theorem sc {g h:List Rn → List Rn → List Rn}:∀ (T U:List (List Rn)),(∀ t u,t ∈ T → u ∈ U → g t u = h t u) → List.zipWith g T U = List.zipWith h T U:=by
 intro T
 induction T with
 | nil=>intro U _;rfl
 | cons t T ih=>
   intro U hh
   cases U with
   | nil=>rfl
   | cons u U=>
     rw [List.zipWith_cons_cons,List.zipWith_cons_cons,hh t u (by simp) (by simp),ih U (fun t u a b=>hh t u (List.mem_cons_of_mem _ a) (List.mem_cons_of_mem _ b))]
theorem vP (X Y:List Kn):oB K1 (fa ofR X) (fa ofR Y) = fa ofR (X ++ Y):=by
 unfold oB
 rw [l8,l8,List.zipWith_map]
 unfold fa
 rw [sb,← oC,List.map_zipWith]
 congr 1
 refine sc _ _ (fun t u _ _=>?_)
 rw [EJ]
 exact Ec (fun n=>by rw [iq,iq,fk,fk])
def kO (k:List Pc) (s:ByteArray):List Kn:=fa ofR (k.flatMap fun p=>if bR p.rg s then p.set else [])
theorem nY (k:List Pc) (s:ByteArray):bX (kO k s):=zJ _
theorem Io (a b:List Pc) (s:ByteArray):oB K1 (kO a s) (kO b s) = kO (a ++ b) s:=by
 unfold kO
 rw [vP,List.flatMap_append]
theorem Ba {k:List Pc} (h:bd k) (s:ByteArray):(k.flatMap fun p=>if bR p.rg s then p.set else []) = cE k s:=by
 induction k with
 | nil=>rfl
 | cons p k ih=>
   obtain ⟨⟨hp,_,_⟩,_,hk⟩:=(ce _ _).1 h
   rw [List.flatMap_cons,ih hk]
   by_cases c:bR p.rg s = true
   · rw [if_pos c,gR c]
     have:cE k s = []:=by
       refine Classical.byContradiction fun z=>?_
       obtain ⟨x,y⟩:=js h z
       rcases ((b9 hp s).1 c).2 with w|w
       · rw [x] at w;cases w
       · grind
     rw [this,List.append_nil]
   · rw [if_neg c,List.nil_append,dH c]
theorem Ip {k:List Pc} (h:bd k) (s:ByteArray):bX (cE k s):=by
 induction k with
 | nil=>exact gZ
 | cons p k ih=>
   obtain ⟨⟨_,_,h3⟩,_,hk⟩:=(ce _ _).1 h
   rw [cE]
   split
   · exact h3
   · exact ih hk
theorem gU {k:List Pc} (h:bd k) (s:ByteArray):kO k s = cE k s:=by
 unfold kO
 rw [Ba h,mX (Ip h s)]
def bI (k:List Pc):List Rg:=k.map Pc.rg
def kn (k:List Pc):List ByteArray:=gD [emB] (bI k)
theorem tD (k:List Pc):ui (kn k):=zI _ _ (by simp)
theorem zK (k:List Pc):emB ∈ kn k:=(gv _ _ _).2 (.inl (by simp))
theorem tE (k:List Pc):lI (kn k):=fun m hm=>by
 rcases (gv _ _ _).1 hm with h|⟨r,_,h1,h2⟩
 · have h:m = emB:=by simpa using h
   rw [h];decide
 · have:=(bH r).1 h1
   rcases h2 with h2|⟨_,h2⟩ <;> rw [h2]
   · exact this.1
   · exact this.2.1
theorem nZ {r:Rg} {e n:ByteArray} (hen:e ≤ n) (h:∀ m,je r m → m ≤ e ∨ n < m):bR r e = bR r n:=by
 cases c:eo r with
 | false=>unfold bR;rw [c];rfl
 | true=>
   rw [Bool.eq_iff_iff,b9 c,b9 c]
   have h1:=h r.lo ⟨c,.inl rfl⟩
   cases o:r.op with
   | true=>
     constructor
     · rintro ⟨a,_⟩;exact ⟨by grind,.inl rfl⟩
     · rintro ⟨a,_⟩;exact ⟨by grind,.inl rfl⟩
   | false=>
     have h2:=h r.hi ⟨c,.inr ⟨o,rfl⟩⟩
     constructor
     · rintro ⟨a,b|b⟩
       · cases b
       · exact ⟨by grind,.inr (by grind)⟩
     · rintro ⟨a,b|b⟩
       · cases b
       · exact ⟨by grind,.inr (by grind)⟩
theorem zL {k:List Pc} {e n:ByteArray} (hen:e ≤ n) (h:∀ p ∈ k,∀ m,je p.rg m → m ≤ e ∨ n < m):kO k e = kO k n:=by
 unfold kO
 congr 1
 rw [List.flatMap_def,List.flatMap_def]
 congr 1
 exact List.map_congr_left fun p hp=>by rw [nZ hen (h p hp)]
theorem vQ {k:List Pc} {p:Pc} (hp:p ∈ k) {m:ByteArray} (h:je p.rg m):m ∈ kn k:=(gv _ _ _).2 (.inr ⟨p.rg,List.mem_map_of_mem hp,h⟩)
def wP (k:List Pc):List Pc:=l5 (kO k) (kn k)
theorem zM (k:List Pc):EG (kO k) (kn k):=fun _ _ hen h=>zL hen (fun _ hp m hm=>h m (vQ hp hm))
theorem tF (k:List Pc):bd (wP k) ∧ ∀ s,cE (wP k) s = kO k s:=tC (nY k) (tD k) (tE k) (zK k) (zM k)
theorem EK {k:List Pc} (h:bd k):wP k = k:=Il (nY k) (tD k) (tE k) (zK k) (zM k) h (fun s=>(gU h s).symm)
end Go.Proofs.YtembiemaiacdfaaGreat
namespace Go.Proofs.YtembiemaiacdfaaGreat
open Go.RowKit Go.Shelf
abbrev vR (l:List UInt8):ByteArray:=⟨l.toArray⟩
abbrev kP (s:ByteArray):List UInt8:=s.data.toList
theorem pc (s:ByteArray):vR (kP s) = s:=by cases s;rfl
def fC (l:List ByteArray):List ByteArray:=(Lib.compact (l.map kP)).map vR
section
variable {d:Array (List UInt8)}
theorem tG:∀ (m:Nat) (x:List UInt8),x ∈ Lib.compactUpTo d m ↔ ∃ j,j < m ∧ d[j]! = x:=by
 intro m
 induction m with
 | zero=>intro x;simp [Lib.compactUpTo]
 | succ m ih=>
   intro x
   rw [Lib.compactUpTo_succ,List.mem_append,ih]
   by_cases k:Lib.keeps d m = true
   · rw [if_pos k]
     constructor
     · rintro (⟨j,h1,h2⟩|h)
       · exact ⟨j,by omega,h2⟩
       · exact ⟨m,by omega,by simpa using Eq.symm (List.mem_singleton.1 h)⟩
     · rintro ⟨j,h1,h2⟩
       rcases Nat.lt_or_ge j m with q|q
       · exact .inl ⟨j,q,h2⟩
       · obtain rfl:j = m:=by omega
         exact .inr (by rw [h2];exact List.mem_singleton.2 rfl)
   · rw [if_neg k]
     constructor
     · rintro (⟨j,h1,h2⟩|h)
       · exact ⟨j,by omega,h2⟩
       · cases h
     · rintro ⟨j,h1,h2⟩
       rcases Nat.lt_or_ge j m with q|q
       · exact .inl ⟨j,q,h2⟩
       · obtain rfl:j = m:=by omega
         have:¬ (j = 0 ∨ d[j]! ≠ d[j - 1]!):=by
           intro z;exact k (by unfold Lib.keeps;exact decide_eq_true z)
         have h3:d[j]! = d[j - 1]!:=Classical.byContradiction fun z=>this (.inr z)
         exact .inl ⟨j - 1,by omega,by rw [← h3];exact h2⟩
theorem Kb (h:∀ i j,i < j → j < d.size → ¬ vR d[j]! < vR d[i]!):∀ m,m ≤ d.size → ((Lib.compactUpTo d m).map vR).Pairwise (· < ·):=by
 intro m
 induction m with
 | zero=>intro _;simp [Lib.compactUpTo]
 | succ m ih=>
   intro hm
   have h1:=ih (by omega)
   rw [Lib.compactUpTo_succ]
   by_cases k:Lib.keeps d m = true
   · rw [if_pos k,List.map_append,List.pairwise_append]
     refine ⟨h1,by simp,fun x hx y hy=>?_⟩
     have hy:y = vR d[m]!:=by simpa using hy
     subst hy
     obtain ⟨z,hz,rfl⟩:=List.mem_map.1 hx
     obtain ⟨j,hj,rfl⟩:=(tG m z).1 hz
     have k':m = 0 ∨ d[m]! ≠ d[m - 1]!:=by unfold Lib.keeps at k;exact of_decide_eq_true k
     have a:=h (m - 1) m (by omega) (by omega)
     have ne:vR d[m]! ≠ vR d[m - 1]!:=fun e=>by
       rcases k' with q|q
       · omega
       · exact q (by have:=congrArg kP e;exact this)
     rcases Nat.lt_or_ge j (m - 1) with q|q
     · have b:=h j (m - 1) q (by omega)
       grind
     · obtain rfl:j = m - 1:=by omega
       grind
   · rw [if_neg k,List.append_nil]
     exact h1
end
theorem yg {l:List ByteArray} (h:l.Pairwise (fun x y=>¬ y < x)):ui (fC l) ∧ ∀ s,s ∈ fC l ↔ s ∈ l:=by
 have get:∀ i (hi:i < l.length),(l.map kP).toArray[i]! = kP l[i]:=fun i hi=>by
   rw [getElem!_pos _ i (by simpa using hi)];simp
 unfold fC Lib.compact
 refine ⟨Kb (fun i j hij hj=>?_) _ (by simp),fun s=>?_⟩
 · have hj:j < l.length:=by simpa using hj
   rw [get i (by omega),get j hj,pc,pc]
   exact List.pairwise_iff_getElem.1 h i j (by omega) hj hij
 · rw [List.mem_map]
   constructor
   · rintro ⟨x,hx,rfl⟩
     obtain ⟨j,hj,rfl⟩:=(tG _ _).1 hx
     have hj:j < l.length:=by simpa using hj
     rw [get j hj,pc]
     exact List.getElem_mem hj
   · intro hs
     obtain ⟨i,hi,rfl⟩:=List.getElem_of_mem hs
     exact ⟨kP l[i],(tG _ _).2 ⟨i,by simpa using hi,get i hi⟩,pc _⟩
theorem Bb (l:List ByteArray):(fC l).length ≤ l.length:=by
 unfold fC Lib.compact Lib.compactUpTo
 simp only [List.length_map]
 have:=List.length_filter_le (Lib.keeps (List.map kP l).toArray) (List.range l.length)
 simpa using this
theorem EL {l E:List ByteArray} (h:∀ s ∈ l,s.size ≤ 1000000000000) (hu:ui E) (hm:∀ s,s ∈ E ↔ s ∈ l):fC (lF l) = E:=by
 obtain ⟨h1,h2⟩:=p9 h
 obtain ⟨h3,h4⟩:=yg h2
 exact Ez h3 hu (fun s=>by rw [h4,h1.mem_iff,hm])
def coCompS_ren:Go.Shelf.Ren:=⟨fun|194=>147|n=>n,fun|0=>0|3=>3|4=>4|9=>9|31=>139|n=>n,fun n=>n⟩
theorem Iq (h:Tryz.f147 = Body.n194 coCompS_ren):Lays.n194 Tryz.prog coCompS_ren:={ mixed:=by kernel_rfl,f194:=Tryz.func147.trans (congrArg some h),t0:=Tryz.underlying0,a0:=Tryz.isAgg0,z0:=Tryz.sizeOf0,v0:=Tryz.zeroValue0,t3:=Tryz.underlying3,a3:=Tryz.isAgg3,z3:=Tryz.sizeOf3,v3:=Tryz.zeroValue3,t4:=Tryz.underlying4,a4:=Tryz.isAgg4,z4:=Tryz.sizeOf4,v4:=Tryz.zeroValue4,t9:=Tryz.underlying9,a9:=Tryz.isAgg9,z9:=Tryz.sizeOf9,v9:=Tryz.zeroValue9,t31:=Tryz.underlying139,a31:=Tryz.isAgg139,z31:=Tryz.sizeOf139,v31:=Tryz.zeroValue139 }
theorem EM (l:List ByteArray) (hl:l.length ≤ 1000000000) :
   dY Tryz.prog 147 [.row 2000 0] [(2000,.row 9 1 (l.map strP))] (.row 3000 0) [(3000,.row 9 1 ((fC l).map strP))]:=by
 refine ⟨qb Tryz.func147 (by kernel_rfl) (by kernel_rfl),?_⟩
 intro C w vs hW hN hO hvl hvs hb
 obtain ⟨v0,rfl⟩:∃ v0,vs = [v0]:=by match vs,hvl with|[a],_=>exact ⟨a,rfl⟩
 have h0:=hvs 0 v0 _ rfl rfl
 have e0:v0 = C.G0.rh 2000:=h0.2 rfl
 subst e0
 have hrow:=hb 2000
 have L:=Iq (by kernel_rfl)
 rcases hrow with ⟨q1,q2⟩|⟨cap,cs,q1,q2,q3,q4,q5,q6,q7⟩
 · have hl0:l = []:=by simpa using q2
   rw [q1]
   refine (Any.slices_Compact_string_empty L none 0 w).mono ?_
   rintro e' w' ⟨rfl,rfl⟩
   refine ⟨_,⟨C.G0.ow,C.G0.ph,fun i=>if i = 3000 then .slice none 0 0 else C.G0.rh i⟩,rfl,⟨rfl,rfl,rfl,Nat.le_refl _,fun _ _ _=>rfl,fun b id h=>⟨(hO b id h).1,.inr (hO b id h).2⟩,fun id hf=>⟨rfl,?_⟩⟩,⟨Nat.le_refl _,fun _=>rfl⟩,fun id=>?_⟩
   · by_cases q:id = 3000
     · subst q;cases hf
     · exact if_neg q
   · by_cases hid:id = 3000
     · subst hid
       exact .inl ⟨rfl,by rw [hl0];rfl⟩
     · rw [show dr id [(3000,Blk.row 9 1 ((fC l).map strP))] = .none by simp [dr,d0 hid]];trivial
 · rw [List.length_map] at q1 q4
   obtain ⟨b,hb0⟩:∃ b,b = C.G0.ph 2000:=⟨_,rfl⟩
   rw [← hb0] at q1 q2 q3
   have hbl:=hO b 2000 q3
   have hH:Sort.Holds encStr w b 0 (l.map kP).toArray:=by
     intro t ht
     have ht':t < l.length:=by simpa using ht
     obtain ⟨_,g⟩:=q7 t (strP l[t]) (by rw [List.getElem?_map,List.getElem?_eq_getElem ht'];rfl)
     obtain ⟨y,y1,_,y3⟩:=g 0 _ rfl
     have y3:y = .string l[t]:=y3
     subst y3
     rw [Nat.mul_one,Nat.add_zero] at y1
     rw [getElem!_pos _ t (by simpa using ht'),Nat.zero_add]
     refine ⟨?_,by simp [World.frozen?,q2]⟩
     have e:encStr ((l.map kP).toArray[t]'(by simpa using ht')) = .string l[t]:=by simp [encStr]
     rw [e]
     simp [World.cell?,q2,y1]
   have:=Any.slices_Compact_string (P:=Tryz.prog) (ρ:=coCompS_ren) L b 0 cap (l.map kP) w hH (by simp;omega) (by simpa using q4)
   rw [List.length_map] at this
   rw [q1]
   refine this.mono ?_
   have hcl:=Bb l
   have hcE:(fC l).map kP = Lib.compact (l.map kP):=by
     unfold fC;rw [List.map_map];exact List.map_id' _
   have hcL:(Lib.compact (l.map kP)).length = (fC l).length:=by rw [← hcE,List.length_map]
   rw [hcL]
   generalize Lib.compact (l.map kP) = Z at *
   rintro e' w' ⟨rfl,n,rfl⟩
   have hblock:∀ (f:Array Value → Array Value) b',b' ≠ b → (Sort.mapBlock (Sort.ahead w n) b f).heap[b']? = w.heap[b']?:=fun f b' h'=>by
     show ((w.heap.modify b (Sort.onCells f)))[b']? = _
     rw [Array.getElem?_modify,if_neg (Ne.symm h')]
   have hthis:∀ (f:Array Value → Array Value),(Sort.mapBlock (Sort.ahead w n) b f).heap[b]? = some (.cells (f cs) 9 (0,0)):=fun f=>by
     show ((w.heap.modify b (Sort.onCells f)))[b]? = _
     rw [Array.getElem?_modify,if_pos rfl,q2]
     rfl
   have hsz:∀ (f:Array Value → Array Value),w.heap.size = (Sort.mapBlock (Sort.ahead w n) b f).heap.size:=fun f=>by
     show _ = (w.heap.modify b (Sort.onCells f)).size
     simp
   unfold Sort.putRow
   generalize hF:Sort.putCells encStr 0 (Z ++ List.replicate (l.length - (fC l).length) []).toArray = f
   refine ⟨_,⟨fun i=>if C.G0.ow i = some 2000 then some 3000 else C.G0.ow i,fun i=>if i = 3000 then b else C.G0.ph i,fun i=>if i = 3000 then .slice (some ⟨b,0,none⟩) (fC l).length cap else C.G0.rh i⟩,rfl,
     ⟨rfl,rfl,rfl,Nat.le_of_eq (hsz f),fun b' _ h'=>hblock f b' (fun e=>h' (e ▸ hbl.2)),fun b' id h=>?_,fun id hf=>?_⟩,⟨Nat.le_refl _,fun _=>rfl⟩,fun id=>?_⟩
   · simp only at h
     have:C.G0.ow b' ≠ none:=by
       intro e;rw [if_neg (by rw [e];simp),e] at h;cases h
     obtain ⟨id',he⟩:=Option.ne_none_iff_exists'.1 this
     have:=hO b' id' he
     exact ⟨by rw [← hsz f];exact this.1,.inr this.2⟩
   · by_cases q:id = 3000
     · subst q;cases hf
     · exact ⟨if_neg q,if_neg q⟩
   · by_cases hid:id = 3000
     · subst hid
       refine .inr ⟨cap,f cs,?_,?_,?_,?_,q5,?_,?_⟩
       · simp only [if_true,List.length_map]
       · simp only [if_true];exact hthis f
       · simp only [if_true];rw [q3];rfl
       · rw [List.length_map];omega
       · rw [← hF,nN];exact q6
       · intro i ps hi
         rw [List.getElem?_map] at hi
         obtain ⟨x,hx,rfl⟩:=Option.map_eq_some_iff.1 hi
         refine ⟨rfl,fun j A hj=>?_⟩
         obtain rfl:j = 0:=by
           have h1:j < 1:=(List.getElem?_eq_some_iff.1 hj).1
           omega
         cases hj
         obtain ⟨hi',hx'⟩:=List.getElem?_eq_some_iff.1 hx
         have hzl:Z.length = (fC l).length:=by rw [← hcE,List.length_map]
         rw [Nat.mul_one,Nat.add_zero,← hF,put_get _ _ _ _ (by rw [q6];omega) (by simp;omega)]
         refine ⟨_,rfl,rfl,?_⟩
         show Value.string _ = Value.string x
         rw [getElem!_pos _ i (by simp;omega)]
         have e3:(Z ++ List.replicate (l.length - (fC l).length) []).toArray[i]'(by simp;omega) = kP x:=by
           have hiz:i < Z.length:=by omega
           have e4:Z[i]'hiz = kP x:=by
             have:(fC l).map kP = Z:=hcE
             subst this
             rw [List.getElem_map,hx']
           rw [List.getElem_toArray,List.getElem_append_left hiz,e4]
         rw [e3]
     · rw [show dr id [(3000,Blk.row 9 1 ((fC l).map strP))] = .none by simp [dr,d0 hid]];trivial
section
theorem mY (r:Rg) (s:ByteArray) (hs:s.size ≤ 1000000000):Fn Tryz.prog 99 [GQ r,sC s] (cU (bR r s)):=by
 have h1:=eM r
 obtain ⟨lo,hi,op⟩:=r
 have hR:=bH ⟨lo,hi,op⟩
 have hH:bR ⟨lo,hi,op⟩ s = (eo ⟨lo,hi,op⟩ && (decide (lo ≤ s) && (op || decide (s < hi)))):=rfl
 generalize bR ⟨lo,hi,op⟩ s = b at *
 generalize eo ⟨lo,hi,op⟩ = q at *
 subst hH
 show Fn Tryz.prog _ [.per (bW [ao (.string lo),ao (.string hi),ao (.bool op)]),sC s] (cU _)
 cases q with
 | false=>
   refine fi Tryz.func99 Tryz.ntmps99 ?_
   (have kc1:=h1;refine w0 ?_;(repeat' first|refine W2.mk ?_ ?_|refine W1.mk fun hc=>?_);all_goals clear kc1)
   refine aO ?_
   exact af rfl rfl
 | true=>
   have hlo:=(hR.1 rfl).1
   simp only at hlo
   clear hR
   have h2:=eD lo s (by omega)
   have h3:=eD s hi (by omega)
   by_cases q1:bO lo s ≤ 0
   · rw [decide_eq_true (show lo ≤ s from q1)]
     cases op with
     | true=>
       refine fi Tryz.func99 Tryz.ntmps99 ?_
       (have kc1:=h1;have kf1:=h2;have kf2:=h3;refine w0 ?_;(repeat' first|refine W2.mk ?_ ?_|refine W1.mk fun hc=>?_);all_goals clear kf2 kf1 kc1)
       refine aO ?_
       exact af rfl rfl
     | false=>
       refine fi Tryz.func99 Tryz.ntmps99 ?_
       (have kc1:=h1;have kf1:=h2;have kf2:=h3;refine w0 ?_;(repeat' first|refine W2.mk ?_ ?_|refine W1.mk fun hc=>?_);all_goals clear kf2 kf1 kc1)
       refine aO ?_
       exact af rfl rfl
   · rw [decide_eq_false (show ¬ lo ≤ s from q1)]
     refine fi Tryz.func99 Tryz.ntmps99 ?_
     (have kc1:=h1;have kc2:=h2;refine w0 ?_;(repeat' first|refine W2.mk ?_ ?_|refine W1.mk fun hc=>?_);all_goals clear kc2 kc1)
     refine aO ?_
     exact af rfl rfl
theorem n5 (r:Rg) (s:ByteArray) (hs:s.size ≤ 1000000000):Fn Tryz.prog 86 [GQ r,sC s] (cU (bR r s)):=by
 have h1:=iM r
 obtain ⟨lo,hi,op⟩:=r
 have hR:=bH ⟨lo,hi,op⟩
 have hH:bR ⟨lo,hi,op⟩ s = (eo ⟨lo,hi,op⟩ && (decide (lo ≤ s) && (op || decide (s < hi)))):=rfl
 generalize bR ⟨lo,hi,op⟩ s = b at *
 generalize eo ⟨lo,hi,op⟩ = q at *
 subst hH
 show Fn Tryz.prog _ [.per (bW [ao (.string lo),ao (.string hi),ao (.bool op)]),sC s] (cU _)
 cases q with
 | false=>
   refine fi Tryz.func86 Tryz.ntmps86 ?_
   (have kc1:=h1;refine w0 ?_;(repeat' first|refine W2.mk ?_ ?_|refine W1.mk fun hc=>?_);all_goals clear kc1)
   refine aO ?_
   exact af rfl rfl
 | true=>
   have hlo:=(hR.1 rfl).1
   simp only at hlo
   clear hR
   have h2:=gn s lo (by omega)
   have h3:=gn s hi (by omega)
   by_cases q1:bO s lo < 0
   · rw [decide_eq_false (show ¬ lo ≤ s by have:=(e9 s lo).1 q1;grind)]
     rw [decide_eq_true q1] at h2
     refine fi Tryz.func86 Tryz.ntmps86 ?_
     (have kc1:=h1;have kc2:=h2;refine w0 ?_;(repeat' first|refine W2.mk ?_ ?_|refine W1.mk fun hc=>?_);all_goals clear kc2 kc1)
     refine aO ?_
     exact af rfl rfl
   · rw [decide_eq_true (show lo ≤ s by rw [e9] at q1;grind)]
     rw [decide_eq_false q1] at h2
     cases op with
     | true=>
       refine fi Tryz.func86 Tryz.ntmps86 ?_
       (have kc1:=h1;have kc2:=h2;refine w0 ?_;(repeat' first|refine W2.mk ?_ ?_|refine W1.mk fun hc=>?_);all_goals clear kc2 kc1)
       refine aO ?_
       exact af rfl rfl
     | false=>
       refine fi Tryz.func86 Tryz.ntmps86 ?_
       (have kc1:=h1;have kf1:=h2;have kf2:=h3;refine w0 ?_;(repeat' first|refine W2.mk ?_ ?_|refine W1.mk fun hc=>?_);all_goals clear kf2 kf1 kc1)
       refine aO ?_
       exact af rfl rfl
theorem mZ (l:List Rg) (s:ByteArray) (hl:l.length ≤ 1000000000) (hs:s.size ≤ 1000000000):Fn Tryz.prog 43 [db l,sC s] (cU (bn l s)):=by
 generalize hb:bn l s = b
 refine fi Tryz.func43 Tryz.ntmps43 ?_
 (refine w0 ?_;(repeat' first|refine W2.mk ?_ ?_|refine W1.mk fun hc=>?_))
 refine ah (X:=Nat) (fun z=>z ≤ l.length ∧ bn (l.drop z) s = b)
   (fun z=>aJ [(0,db l),(1,sC s),(5,iC .i64 (z:Nat))] []) (fun z=>l.length - z) 0 ⟨Nat.zero_le _,by rw [List.drop_zero];exact hb⟩ ?_ ?_
 · exact ab
 · rintro z ⟨h1,h2⟩
   by_cases hz:z < l.length
   · have h3:=n5 l[z] s hs
     rw [List.drop_eq_getElem_cons hz,bn,List.any_cons] at h2
     cases hr:bR l[z] s with
     | true=>
       rw [hr] at h3 h2
       rw [Bool.true_or] at h2
       subst h2
       clear hb
       (have kc1:=h3;refine w0 ?_;(repeat' first|refine W2.mk ?_ ?_|refine W1.mk fun hc=>?_);all_goals clear kc1)
       refine aO ?_
       exact af rfl rfl
     | false=>
       rw [hr] at h3 h2
       rw [Bool.false_or] at h2
       clear hb
       (have kc1:=h3;refine w0 ?_;(repeat' first|refine W2.mk ?_ ?_|refine W1.mk fun hc=>?_);all_goals clear kc1)
       refine ⟨z + 1,⟨by omega,h2⟩,by omega,?_⟩
       exact ab
   · obtain rfl:z = l.length:=by omega
     rw [List.drop_length] at h2
     simp only [bn,List.any_nil] at h2
     subst h2
     clear hb
     (refine w0 ?_;(repeat' first|refine W2.mk ?_ ?_|refine W1.mk fun hc=>?_))
     refine aO ?_
     exact af rfl rfl
theorem Bc (x y:Rg) (hx:eo x = true) (hy:eo y = true):Fn Tryz.prog 145 [GQ x,GQ y] (ig (A8 x y)):=by
 have h1:=eM x
 have h2:=eM y
 have hR:=(bH x).1 hx
 rw [hx] at h1
 rw [hy] at h2
 clear hx hy
 obtain ⟨lo,hi,op⟩:=x
 obtain ⟨lo',hi',op'⟩:=y
 have hhi:=hR.2.1
 simp only at hhi
 clear hR
 have h3:=eD hi hi' (by omega)
 have hE:A8 ⟨lo,hi,op⟩ ⟨lo',hi',op'⟩ = (if op && op' then 0 else if op then 1 else if op' then -1 else bO hi hi'):=rfl
 rw [hE]
 show Fn Tryz.prog _ [.per (bW [ao (.string lo),ao (.string hi),ao (.bool op)]),.per (bW [ao (.string lo'),ao (.string hi'),ao (.bool op')])] (ig _)
 cases op <;> cases op'
 all_goals
   refine fi Tryz.func145 Tryz.ntmps145 ?_
   (have kf1:=h1;have kf2:=h2;have kc1:=h3;refine w0 ?_;(repeat' first|refine W2.mk ?_ ?_|refine W1.mk fun hc=>?_);all_goals clear kc1 kf2 kf1)
   refine aO ?_
   exact az rfl rfl
end
def Bd (f:FuncId) (As:List PV):PV:=⟨fun N w v=>∃ xs:List Value,v = .func (.func f) #[] xs.toArray ∧ xs.length = As.length ∧ ∀ (j:Nat) (x:Value) (A:PV),xs[j]? = some x → As[j]? = some A → A.p N w x,
 fun h1 h2 h3 ⟨xs,e,l,h⟩=>⟨xs,e,l,fun j x A a b=>A.mono h1 h2 h3 (h j x A a b)⟩⟩
section
variable {P:Program} {n t:Nat} {ops:Array Oper} {o:Oper} {F:List Nat} {S:St}
theorem zN {f:FuncId} {x:Operand} {A:PV} (hp:Pl n o t) (ho:o.op = .makeFunc (.func f) #[] #[x]) (hx:S.opd x = .per A):ak n P ops o (ap x) (.per (Bd f [A])) [] S:=
 aA hp fun C T g a w hA hR=>⟨.func (.func f) #[] #[a.eval x],by simp [execOp,ho,Instr.makeFunc],[a.eval x],rfl,rfl,fun j v B h1 h2=>by
   have h:=aw (x:=x) hA (fun k h=>by simp [h]) hR
   rw [hx] at h
   match j with
   | 0=>cases h1;cases h2;exact h
   | j + 1=>cases h1⟩
theorem zO {f:FuncId} {x y:Operand} {A B:PV} (hp:Pl n o t) (ho:o.op = .makeFunc (.func f) #[] #[x,y]) (hx:S.opd x = .per A) (hy:S.opd y = .per B):ak n P ops o (ap x ++ ap y) (.per (Bd f [A,B])) [] S:=
 aA hp fun C T g a w hA hR=>⟨.func (.func f) #[] #[a.eval x,a.eval y],by simp [execOp,ho,Instr.makeFunc],[a.eval x,a.eval y],rfl,rfl,fun j v B' h1 h2=>by
   have h:=aw (x:=x) hA (fun k h=>by simp [h]) hR
   have h':=aw (x:=y) hA (fun k h=>by simp [h]) hR
   rw [hx] at h
   rw [hy] at h'
   match j with
   | 0=>cases h1;cases h2;exact h
   | 1=>cases h1;cases h2;exact h'
   | j + 2=>cases h1⟩
theorem Bf {x0:Operand} {f:FuncId} {As:List PV} (hx:S.opd x0 = .per (Bd f As)) (hF:∀ k ∈ ap x0,k ∈ F):sY F S x0 f (As.map .per):=fun n C T g a w hA hR=>by
 have h:=aw (x:=x0) hA hF hR
 rw [hx] at h
 obtain ⟨xs,e,l,h⟩:=h
 refine ⟨xs,e,by rw [l,List.length_map],fun j v c h1 h2=>?_⟩
 rw [List.getElem?_map] at h2
 obtain ⟨A,hA',rfl⟩:=Option.map_eq_some_iff.1 h2
 exact h j v A h1 hA'
theorem Ir {bo:Bool} {ρ:Nat → Option Nat} {old new:Nat → Nat} (As:List PV):(As.map Cnt.per).map (Cnt.mp bo ρ old new) = As.map Cnt.per:=by
 rw [List.map_map];exact List.map_congr_left fun _ _=>rfl
theorem jt {f:FuncId} {x0:Operand} {xs:List Operand} (Bs:List Cnt) {As:List PV} {full:List Cnt} {r:Cnt} (hf:dY P f full [] r []) (hfl:Bs ++ As.map Cnt.per = full:=by rfl) (hp:AI n o:=by exact ⟨rfl,rfl⟩) (ho:gP o x0 xs:=by exact ⟨_,rfl⟩) (hx:S.opd x0 = .per (Bd f As):=by rfl)
   (hg:ov S [] xs Bs:=by first|((repeat (first|exact ov.nil|(refine ov.cons ?_ ?_;focus (first|exact lQ rfl|exact lR rfl|exact lU rfl rfl rfl rfl|exact lS rfl|exact lV rfl|exact jV rfl|exact kF rfl rfl))));done)|fail):ak n P ops o (ap x0 ++ (dR S xs ++ s8 [])) (r.mp false (iB []) z0 (ra S.ver [])) (kA S [] [] []) S:=
 jl (cs:=As.map .per) [] hp ho (Bf hx (fun k h=>by simp [h])) (by rw [Ir,hfl];exact hf) rfl (fun p h=>by cases h) (hg.gives (fun _ h=>by simp at h ⊢;exact .inr (.inl h)) (fun _ h=>by simp [h])) .nil
end
def cJ (k:List Pc):Prop:=k.length ≤ 1000000 ∧ (k.flatMap Pc.set).length ≤ 1000000 ∧ ((k.flatMap Pc.set).flatMap Kn.runs).length ≤ 1000000
def gV (s:ByteArray) (p:Pc):List Kn:=if bR p.rg s then p.set else []
theorem vS {α β:Type} {f g:α → List β} (h:∀ x,(f x).Sublist (g x)):∀ l:List α,(l.flatMap f).Sublist (l.flatMap g):=by
 intro l
 induction l with
 | nil=>exact .slnil
 | cons x l ih=>rw [List.flatMap_cons,List.flatMap_cons];exact (h x).append ih
theorem fq {α β:Type} (f:α → List β) {a b:List α} (h:a.Sublist b):(a.flatMap f).length ≤ (b.flatMap f).length:=by
 induction h with
 | slnil=>exact Nat.le_refl _
 | cons x _ ih=>rw [List.flatMap_cons,List.length_append];omega
 | cons_cons x _ ih=>rw [List.flatMap_cons,List.flatMap_cons,List.length_append,List.length_append];omega
theorem vT (s:ByteArray) (p:Pc):(gV s p).Sublist p.set:=by
 unfold gV;split
 · exact List.Sublist.refl _
 · exact List.nil_sublist _
theorem cJ.has {k:List Pc} (h:cJ k) (s:ByteArray):qi (k.flatMap (gV s)):=by
 have h1:=vS (vT s) k
 have h2:=h1.length_le
 have h3:=fq Kn.runs h1
 exact ⟨by have:=h.2.1;omega,by have:=h.2.2;omega⟩
theorem n7 {α β:Type} (f:α → List β) (l:List α) (z:Nat):(l.take z).flatMap f = (l.take z).flatMap f ∧ ((l.take z).flatMap f).length ≤ (l.flatMap f).length:=⟨rfl,fq f (List.take_sublist _ _)⟩
theorem n8 {α β:Type} (f:α → List β) (l:List α) (z:Nat) (h:z < l.length):(l.take (z + 1)).flatMap f = (l.take z).flatMap f ++ f l[z]:=by
 rw [List.take_succ_eq_append_getElem h,List.flatMap_append,List.flatMap_cons,List.flatMap_nil,List.append_nil]
theorem eA {α β:Type} (f:α → List β) {l:List α} {x:α} (h:x ∈ l):(f x).length ≤ (l.flatMap f).length:=by
 induction l with
 | nil=>cases h
 | cons y l ih=>
   rw [List.flatMap_cons,List.length_append]
   rcases List.mem_cons.1 h with rfl|h
   · omega
   · have:=ih h;omega
section
theorem Jz (k:List Pc) (s:ByteArray) (hk:cJ k) (hs:s.size ≤ 1000000000):Fn Tryz.prog 95 [cQ k,sC s] (lG (kO k s)):=by
 have hk1:=hk.1
 have hO:=Ii (k.flatMap (gV s)) (hk.has s).tot
 rw [show fa ofR (k.flatMap (gV s)) = kO k s from rfl] at hO
 generalize kO k s = R at *
 refine fi Tryz.func95 Tryz.ntmps95 ?_
 (refine w0 ?_;(repeat' first|refine W2.mk ?_ ?_|refine W1.mk fun hc=>?_))
 refine cc (bv 5 700 130 2 rfl rfl) ?_
 refine ah (X:=Nat) (fun z=>z ≤ k.length)
   (fun z=>aJ [(1,sC s),(5,.row 700 0),(8,cQ k),(9,iC .i64 (k.length:Nat)),(10,iC .i64 ((z:Nat):Int))] [(700,.row 130 2 (((k.take z).flatMap (gV s)).map zv))]) (fun z=>k.length - z) 0 (Nat.zero_le _) ?_ ?_
 · exact ab
 · intro z hz
   by_cases hlt:z < k.length
   · have hsn:=n8 (gV s) k z hlt
     have h1:=(n7 (gV s) k z).2
     have h2:=(hk.has s).1
     have h3:=eA Pc.set (List.getElem_mem hlt)
     have h4:=hk.2.1
     have c1:=mY k[z].rg s hs
     generalize (k.take z).flatMap (gV s) = A at *
     unfold gV at hsn
     clear hk
     cases c:bR k[z].rg s with
     | true=>
       rw [c] at c1 hsn
       rw [if_pos rfl] at hsn
       (have kc1:=c1;refine w0 ?_;(repeat' first|refine W2.mk ?_ ?_|refine W1.mk fun hc=>?_);all_goals clear kc1)
       refine ⟨z + 1,hlt,by omega,an (aM 700 701) (an (aM 701 700) ?_)⟩
       rw [show (k.take (z + 1)).flatMap (gV s) = _ from hsn]
       exact ab
     | false=>
       rw [c] at c1 hsn
       rw [if_neg (by simp),List.append_nil] at hsn
       (have kc1:=c1;refine w0 ?_;(repeat' first|refine W2.mk ?_ ?_|refine W1.mk fun hc=>?_);all_goals clear kc1)
       refine ⟨z + 1,hlt,by omega,?_⟩
       rw [show (k.take (z + 1)).flatMap (gV s) = _ from hsn]
       exact ab
   · rw [List.take_of_length_le (show k.length ≤ z by omega)]
     clear hk
     generalize k.flatMap (gV s) = A at *
     (have kc1:=hO;refine w0 ?_;(repeat' first|refine W2.mk ?_ ?_|refine W1.mk fun hc=>?_);all_goals clear kc1)
     refine aO ?_
     exact cn rfl rfl rfl
def rawE (p:Pc):List ByteArray:=if eo p.rg then (if p.rg.op then [p.rg.lo] else [p.rg.lo,p.rg.hi]) else []
theorem vU (p:Pc) (m:ByteArray):m ∈ rawE p ↔ je p.rg m:=by
 unfold rawE je
 by_cases c:eo p.rg = true
 · rw [if_pos c]
   cases o:p.rg.op with
   | true=>simp [c]
   | false=>simp [c]
 · rw [if_neg c]
   simp [c]
theorem vV (k:List Pc) (m:ByteArray):m ∈ k.flatMap rawE ↔ ∃ r ∈ bI k,je r m:=by
 unfold bI
 rw [List.mem_flatMap]
 constructor
 · rintro ⟨p,hp,h⟩
   exact ⟨p.rg,List.mem_map_of_mem hp,(vU p m).1 h⟩
 · rintro ⟨r,hr,h⟩
   obtain ⟨p,hp,rfl⟩:=List.mem_map.1 hr
   exact ⟨p,hp,(vU p m).2 h⟩
theorem EN (p:Pc):(rawE p).length ≤ 2:=by unfold rawE;split;split <;> simp;simp
theorem n9:∀ k:List Pc,(k.flatMap rawE).length ≤ 2 * k.length:=by
 intro k
 induction k with
 | nil=>simp
 | cons p k ih=>rw [List.flatMap_cons,List.length_append,List.length_cons];have:=EN p;omega
theorem tH {k:List Pc} {m:ByteArray} (h:m ∈ emB :: k.flatMap rawE):m.size ≤ 1000000000000:=by
 rcases List.mem_cons.1 h with rfl|h
 · decide
 · obtain ⟨r,_,c,q⟩:=(vV k m).1 h
   have:=(bH r).1 c
   rcases q with q|⟨_,q⟩ <;> rw [q] <;> omega
theorem Bg (k:List Pc):fC (lF (emB :: k.flatMap rawE)) = kn k:=
 EL (fun _ h=>tH h) (tD k) (fun s=>by
   unfold kn
   rw [gv,List.mem_cons (a:=s) (b:=emB) (l:=k.flatMap rawE),vV,List.mem_singleton])
abbrev l9 (l:List Pc):Cnt:=.per (ip l)
abbrev Mc (l:List ByteArray):Blk:=.row 9 1 (l.map strP)
theorem vW (ls:List (List Pc)) (hl:ls.length ≤ 1000) (hk:ls.flatten.length ≤ 1000000):Fn Tryz.prog 93 [.bor 1 (ls.map fun k=>[ip k])] (.own 9 1 ((kn ls.flatten).map strP)):=by
 have hsort:=Bg ls.flatten
 have hlen:=n9 ls.flatten
 have s1:=Ed (emB :: ls.flatten.flatMap rawE) (fun s h=>tH h) (by rw [List.length_cons];omega)
 have s2:=EM (lF (emB :: ls.flatten.flatMap rawE)) (by
   have:=(p9 (l:=emB :: ls.flatten.flatMap rawE) (fun s h=>tH h)).1.length_eq
   rw [this,List.length_cons];omega)
 rw [hsort] at s2
 generalize kn ls.flatten = R at *
 generalize lF (emB :: ls.flatten.flatMap rawE) = Q at *
 clear hsort
 refine fi Tryz.func93 Tryz.ntmps93 ?_
 (repeat' (first|refine cl ?_|refine bh ?_|refine bx ?_|refine bz ?_|refine cm ?_|refine aW ?_|refine cv dm ?_|refine cj ?_|refine ck (by kernel_rfl) ?_|(refine eU rfl rfl ⟨fun hc=>?_,fun hc=>?_⟩ <;> (repeat rw [List.length_map] at hc) <;> (try exact cP hc))|((first|apply aB rfl|apply aC rfl|apply aD rfl|apply aF rfl);focus (first|((apply ax 15;(focus rfl);solve|(apply gM <;> first|exact ⟨rfl,rfl,rfl⟩|rfl|infer_instance|(repeat (first|exact cA.nil|(apply cA.cons;(focus (first|exact aG rfl rfl rfl|exact gi rfl|exact gj rfl))))))))|(apply bt;(focus rfl);apply ag rfl rfl rfl rfl rfl;((apply ax 15;(focus rfl);solve|(apply gM <;> first|exact ⟨rfl,rfl,rfl⟩|rfl|infer_instance|(repeat (first|exact cA.nil|(apply cA.cons;(focus (first|exact aG rfl rfl rfl|exact gi rfl|exact gj rfl)))))))))|exact dn|fail))|refine bB ?_|refine bD ?_|refine bF ?_|refine dv ?_|refine dw ?_|refine bG ?_|refine bi rfl ?_|((first|refine eV rfl rfl rfl ⟨fun hc=>?_,fun hc=>?_⟩|refine eW rfl rfl rfl ⟨fun hc=>?_,fun hc=>?_⟩) <;> (fail_if_success (have q:(true = true):=hc)) <;> (fail_if_success (have q:(false = false):=hc)) <;> (repeat rw [List.length_map] at hc) <;> (try exact cP hc))|refine aZ rfl rfl (fun hc=>?_) ?_))
 refine cc (aM 8 700) ?_
 refine ah (X:=Nat) (fun z=>z ≤ ls.length)
   (fun z=>aJ [(3,.row 700 0),(9,.bor 1 (ls.map fun k=>[ip k])),(10,iC .i64 (ls.length:Nat)),(11,iC .i64 ((z:Nat):Int))] [(700,Mc (emB :: (ls.take z).flatten.flatMap rawE))]) (fun z=>ls.length - z) 0 (Nat.zero_le _) ?_ ?_
 · exact ab
 · intro z hz
   by_cases hlt:z < ls.length
   · have htk:(ls.take (z + 1)).flatten = (ls.take z).flatten ++ ls[z]:=by rw [List.take_succ_eq_append_getElem hlt,List.flatten_append];simp
     have hsub:(ls.take (z + 1)).flatten.length ≤ ls.flatten.length:=by
       have:ls.flatten = (ls.take (z + 1)).flatten ++ (ls.drop (z + 1)).flatten:=by rw [← List.flatten_append,List.take_append_drop]
       rw [this,List.length_append];omega
     have hl2:=congrArg List.length htk
     rw [List.length_append] at hl2
     have hraw:(ls.take (z + 1)).flatten.flatMap rawE = (ls.take z).flatten.flatMap rawE ++ ls[z].flatMap rawE:=by rw [htk,List.flatMap_append]
     have hA:=n9 (ls.take z).flatten
     generalize (ls.take z).flatten.flatMap rawE = A at *
     clear s1 s2 htk
     (refine w0 ?_;(repeat' first|refine W2.mk ?_ ?_|refine W1.mk fun hc=>?_))
     refine ah (X:=Nat) (fun y=>y ≤ ls[z].length)
       (fun y=>aJ [(3,.row 700 0),(9,.bor 1 (ls.map fun k=>[ip k])),(10,iC .i64 (ls.length:Nat)),(11,iC .i64 ((z:Nat):Int)),(15,l9 ls[z]),(16,iC .i64 (ls[z].length:Nat)),(17,iC .i64 ((y:Nat):Int))] [(700,Mc (emB :: (A ++ (ls[z].take y).flatMap rawE)))]) (fun y=>ls[z].length - y) 0 (Nat.zero_le _) ?_ ?_
     · (refine lB ?_ ?_;(focus ((repeat (first|exact gd.nil|(refine gd.cons ?_ ?_;rotate_left)));(all_goals try (first|rfl|(refine GP ?_;first|omega|(simp;done)|(simp;omega))|(refine ro ?_;first|(simp;done)|(simp [*];done))))));(focus ((repeat (first|exact gg.nil|(refine gg.cons ?_ ?_;rotate_left)));(all_goals try (first|rfl|(refine nK ?_;(rw [List.map_append] <;> rfl);done)|(refine lC ?_;(rw [List.map_append] <;> rfl);done))))))
       rw [List.take_zero,List.flatMap_nil,List.append_nil]
       rfl
     · intro y hy
       by_cases hly:y < ls[z].length
       · have hsn:=n8 rawE ls[z] y hly
         have hB:=(n7 rawE ls[z] y).2
         have hB2:=n9 ls[z]
         have c1:=eM ls[z][y].rg
         generalize (ls[z].take y).flatMap rawE = B at *
         unfold rawE at hsn
         cases c:eo ls[z][y].rg with
         | false=>
           rw [c] at c1 hsn
           rw [if_neg (by simp),List.append_nil] at hsn
           (have kc1:=c1;refine w0 ?_;(repeat' first|refine W2.mk ?_ ?_|refine W1.mk fun hc=>?_);all_goals clear kc1)
           refine ⟨y + 1,hly,by omega,?_⟩
           rw [show (ls[z].take (y + 1)).flatMap rawE = _ from hsn]
           exact ab
         | true=>
           rw [c] at c1 hsn
           rw [if_pos rfl] at hsn
           cases o:ls[z][y].rg.op with
           | true=>
             rw [o,if_pos rfl] at hsn
             (have kc1:=c1;refine w0 ?_;(repeat' first|refine W2.mk ?_ ?_|refine W1.mk fun hc=>?_);all_goals clear kc1)
             all_goals first
               | (exfalso;simp [o] at hc;done)
               | (refine ⟨y + 1,hly,by omega,an (aM 700 701) (an (aM 701 700) ?_)⟩
                  rw [show (ls[z].take (y + 1)).flatMap rawE = _ from hsn]
                  (refine lB ?_ ?_;(focus ((repeat (first|exact gd.nil|(refine gd.cons ?_ ?_;rotate_left)));(all_goals try (first|rfl|(refine GP ?_;first|omega|(simp;done)|(simp;omega))|(refine ro ?_;first|(simp;done)|(simp [*];done))))));(focus ((repeat (first|exact gg.nil|(refine gg.cons ?_ ?_;rotate_left)));(all_goals try (first|rfl|(refine nK ?_;(rw [List.map_append] <;> rfl);done)|(refine lC ?_;(rw [List.map_append] <;> rfl);done))))))
                  show Blk.row _ _ _ = Blk.row _ _ _
                  simp
                  try rfl)
           | false=>
             rw [o,if_neg (by simp)] at hsn
             (have kc1:=c1;refine w0 ?_;(repeat' first|refine W2.mk ?_ ?_|refine W1.mk fun hc=>?_);all_goals clear kc1)
             all_goals first
               | (exfalso;simp [o] at hc;done)
               | (refine ⟨y + 1,hly,by omega,an (aM 700 701) (an (aM 701 700) ?_)⟩
                  rw [show (ls[z].take (y + 1)).flatMap rawE = _ from hsn]
                  (refine lB ?_ ?_;(focus ((repeat (first|exact gd.nil|(refine gd.cons ?_ ?_;rotate_left)));(all_goals try (first|rfl|(refine GP ?_;first|omega|(simp;done)|(simp;omega))|(refine ro ?_;first|(simp;done)|(simp [*];done))))));(focus ((repeat (first|exact gg.nil|(refine gg.cons ?_ ?_;rotate_left)));(all_goals try (first|rfl|(refine nK ?_;(rw [List.map_append] <;> rfl);done)|(refine lC ?_;(rw [List.map_append] <;> rfl);done))))))
                  show Blk.row _ _ _ = Blk.row _ _ _
                  simp
                  try rfl)
       · rw [List.take_of_length_le (show ls[z].length ≤ y by omega)]
         rw [← hraw]
         (refine w0 ?_;(repeat' first|refine W2.mk ?_ ?_|refine W1.mk fun hc=>?_))
         refine ⟨z + 1,hlt,by omega,?_⟩
         exact ab
   · rw [List.take_of_length_le (show ls.length ≤ z by omega)]
     (have km1:=(show bp [(1000,700)] _ _ _ _ _ _ from s1);have km2:=(show bp [(2000,700),(3000,800)] _ _ _ _ _ _ from s2);refine w0 ?_;(repeat' first|refine W2.mk ?_ ?_|refine W1.mk fun hc=>?_);all_goals clear km2 km1)
     refine aO ?_
     exact cn rfl rfl rfl
end
end Go.Proofs.YtembiemaiacdfaaGreat
