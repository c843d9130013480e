/- Texts joined: Ord RnO SoS Kn. -/
import Derived.Test.YtembiemaiacdfaaGreatJ09
import Derived.Test.YtembiemaiacdfaaGreatJ05
import Derived.Test.YtembiemaiacdfaaGreatJ11
set_option maxRecDepth 10000
set_option maxHeartbeats 8000000
namespace Go.Proofs.YtembiemaiacdfaaGreat
theorem Aq:∀ (a b:List UInt8),cp b a = - cp a b ∧ (cp a b = 0 → a = b):=by
 intro a
 induction a with
 | nil=>intro b;cases b <;> simp [cp]
 | cons x a ih=>
   intro b
   cases b with
   | nil=>simp [cp]
   | cons y b=>
     obtain ⟨h1,h2⟩:=ih b
     simp only [cp]
     refine ⟨?_,?_⟩
     · rcases Nat.lt_trichotomy x.toNat y.toNat with q|q|q
       · rw [if_neg (by omega),if_pos q,if_pos q];rfl
       · rw [if_neg (by omega),if_neg (by omega),if_neg (by omega),if_neg (by omega)];exact h1
       · rw [if_pos q,if_neg (by omega),if_pos q]
     · split
       · intro h;omega
       · split
         · intro h;omega
         · intro h
           rw [h2 h,UInt8.toNat_inj.1 (show x.toNat = y.toNat by omega)]
theorem J4:∀ (a b c:List UInt8),cp a a = 0 ∧ (cp a b ≤ 0 → cp b c ≤ 0 → cp a c ≤ 0):=by
 intro a
 induction a with
 | nil=>intro b c;cases b <;> cases c <;> simp [cp]
 | cons x a ih=>
   intro b c
   refine ⟨by simp [cp,(ih a a).1],?_⟩
   cases b with
   | nil=>cases c <;> simp [cp]
   | cons y b=>
     cases c with
     | nil=>simp [cp]
     | cons z c=>
       obtain ⟨_,h1⟩:=ih b c
       simp only [cp]
       intro q1 q2
       split at q1
       · split at q2
         · rw [if_pos (by omega)];decide
         · split at q2
           · omega
           · rw [if_pos (by omega)];decide
       · split at q1
         · omega
         · split at q2
           · rw [if_pos (by omega)];decide
           · split at q2
             · omega
             · rw [if_neg (by omega),if_neg (by omega)];exact h1 q1 q2
instance M7:LE ByteArray:=⟨fun s t=>bG s t ≤ 0⟩
instance M8:LT ByteArray:=⟨fun s t=>bG s t < 0⟩
instance M1 (s t:ByteArray):Decidable (s < t):=inferInstanceAs (Decidable (bG s t < 0))
instance M2 (s t:ByteArray):Decidable (s ≤ t):=inferInstanceAs (Decidable (bG s t ≤ 0))
theorem yM (s t:ByteArray):bG t s = - bG s t:=(Aq _ _).1
theorem qd (s:ByteArray):bG s s = 0:=(J4 _ [] []).1
theorem Mx (s t:ByteArray):bG s t = 0 ↔ s = t:=by
 refine ⟨fun h=>?_,fun h=>h ▸ qd s⟩
 have:=(Aq s.data.toList t.data.toList).2 h
 exact ByteArray.ext (Array.toList_inj.1 this)
theorem v8 (s t:ByteArray):bG s t ≤ 0 ↔ s ≤ t:=Iff.rfl
theorem eM (s t:ByteArray):bG s t < 0 ↔ s < t:=Iff.rfl
instance M3:Std.IsLinearOrder ByteArray where
 le_refl a:=(v8 _ _).1 (Int.le_of_eq (qd a))
 le_trans a b c h1 h2:=(J4 _ _ _).2 h1 h2
 le_antisymm a b h1 h2:=(Mx a b).1 (Int.le_antisymm h1 (by have:=(v8 b a).2 h2;rw [yM] at this;omega))
 le_total a b:=by rw [← v8,← v8,yM a b];omega
instance M4:Std.LawfulOrderLT ByteArray where
 lt_iff a b:=by rw [← v8,← v8,← eM,yM a b];omega
end Go.Proofs.YtembiemaiacdfaaGreat
namespace Go.Proofs.YtembiemaiacdfaaGreat
def dD (l:List Rn) (n:Int):Prop:=∃ r ∈ l,ga r = true ∧ r.fr ≤ n ∧ n ≤ r.to
theorem dm (n:Int):¬ dD [] n:=fun ⟨_,h,_⟩=>by cases h
theorem bm (x:Rn) (l:List Rn) (n:Int):dD (x :: l) n ↔ (ga x = true ∧ x.fr ≤ n ∧ n ≤ x.to) ∨ dD l n:=by
 constructor
 · rintro ⟨r,hr,h⟩
   rcases List.mem_cons.1 hr with rfl|hr
   · exact .inl h
   · exact .inr ⟨r,hr,h⟩
 · rintro (h|⟨r,hr,h⟩)
   · exact ⟨x,List.mem_cons_self,h⟩
   · exact ⟨r,List.mem_cons_of_mem _ hr,h⟩
theorem gA (l m:List Rn) (n:Int):dD (l ++ m) n ↔ dD l n ∨ dD m n:=by
 induction l with
 | nil=>simp [dm]
 | cons x l ih=>rw [List.cons_append,bm,bm,ih,or_assoc]
theorem si {l m:List Rn} (h:∀ r,r ∈ l ↔ r ∈ m) (n:Int):dD l n ↔ dD m n:=
 ⟨fun ⟨r,hr,q⟩=>⟨r,(h r).1 hr,q⟩,fun ⟨r,hr,q⟩=>⟨r,(h r).2 hr,q⟩⟩
theorem oS (l:List Rn) (n:Int):dD (l.filter ga) n ↔ dD l n:=
 ⟨fun ⟨r,hr,q⟩=>⟨r,(List.mem_filter.1 hr).1,q⟩,fun ⟨r,hr,q⟩=>⟨r,List.mem_filter.2 ⟨hr,q.1⟩,q⟩⟩
theorem qe {l:List Rn} {n:Int} (h:dD l n):1 ≤ n ∧ n ≤ 1099511627776:=by
 obtain ⟨r,_,h1,h2,h3⟩:=h
 have:=(bu r).1 h1
 omega
theorem sj:cK []:=fun i hi=>by simp at hi
theorem fg (x:Rn) (l:List Rn):cK (x :: l) ↔ ga x = true ∧ (∀ y,l.head? = some y → x.to + 2 ≤ y.fr) ∧ cK l:=by
 constructor
 · intro h
   refine ⟨(h 0 (by simp) (by simp)).1,fun y hy=>?_,fun i hi hi'=>?_⟩
   · cases l with
     | nil=>cases hy
     | cons z l=>
       cases hy
       have:=(h 1 (by simp) (by simp)).2 (by omega)
       simpa using this
   · have h1:=h (i + 1) (by simpa using hi) (by simpa using hi)
     simp only [List.getElem_cons_succ,Nat.add_sub_cancel] at h1
     refine ⟨h1.1,fun h0=>?_⟩
     have h2:=h1.2 (by omega)
     obtain ⟨j,rfl⟩:∃ j,i = j + 1:=⟨i - 1,by omega⟩
     simpa using h2
 · rintro ⟨h1,h2,h3⟩ i hi hi'
   cases i with
   | zero=>exact ⟨h1,fun q=>absurd q (Nat.lt_irrefl _)⟩
   | succ i=>
     have h4:=h3 i (by simpa using hi) (by simpa using hi)
     simp only [List.getElem_cons_succ,Nat.add_sub_cancel]
     refine ⟨h4.1,fun _=>?_⟩
     cases i with
     | zero=>
       cases l with
       | nil=>simp at hi
       | cons z l=>exact h2 z rfl
     | succ i=>
       have:=h4.2 (by omega)
       simpa using this
theorem lL {x:Rn} {l:List Rn} (h:cK (x :: l)) {n:Int} (hn:dD l n):x.to + 2 ≤ n:=by
 induction l generalizing x with
 | nil=>exact absurd hn (dm n)
 | cons y l ih=>
   obtain ⟨h1,h2,h3⟩:=(fg _ _).1 h
   have h4:=h2 y rfl
   have h5:=(bu y).1 ((fg _ _).1 h3).1
   rcases (bm _ _ _).1 hn with q|q
   · omega
   · have:=ih h3 q
     omega
theorem qf:∀ {l m:List Rn},cK l → cK m → (∀ n,dD l n ↔ dD m n) → l = m:=by
 intro l
 induction l with
 | nil=>
   intro m _ hm h
   cases m with
   | nil=>rfl
   | cons y m=>
     have hy:=((fg _ _).1 hm).1
     have hy':=(bu y).1 hy
     exact absurd ((h y.fr).2 ((bm _ _ _).2 (.inl ⟨hy,by omega,by omega⟩))) (dm _)
 | cons x l ih=>
   intro m hl hm h
   obtain ⟨hx,_,hl'⟩:=(fg _ _).1 hl
   have hx':=(bu x).1 hx
   cases m with
   | nil=>exact absurd ((h x.fr).1 ((bm _ _ _).2 (.inl ⟨hx,by omega,by omega⟩))) (dm _)
   | cons y m=>
     obtain ⟨hy,_,hm'⟩:=(fg _ _).1 hm
     have hy':=(bu y).1 hy
     have lowl:∀ n,dD (x :: l) n → x.fr ≤ n ∧ (n ≤ x.to ∨ x.to + 2 ≤ n):=fun n hn=>by
       rcases (bm _ _ _).1 hn with q|q
       · omega
       · have:=lL hl q;omega
     have lowm:∀ n,dD (y :: m) n → y.fr ≤ n ∧ (n ≤ y.to ∨ y.to + 2 ≤ n):=fun n hn=>by
       rcases (bm _ _ _).1 hn with q|q
       · omega
       · have:=lL hm q;omega
     have inl:∀ n,x.fr ≤ n → n ≤ x.to → dD (x :: l) n:=fun n a b=>(bm _ _ _).2 (.inl ⟨hx,a,b⟩)
     have inm:∀ n,y.fr ≤ n → n ≤ y.to → dD (y :: m) n:=fun n a b=>(bm _ _ _).2 (.inl ⟨hy,a,b⟩)
     have e1:x.fr = y.fr:=by
       have a:=lowm _ ((h x.fr).1 (inl _ (by omega) (by omega)))
       have b:=lowl _ ((h y.fr).2 (inm _ (by omega) (by omega)))
       omega
     have e2:x.to = y.to:=by
       rcases Int.lt_trichotomy x.to y.to with q|q|q
       · have:=lowl _ ((h (x.to + 1)).2 (inm _ (by omega) (by omega)));omega
       · exact q
       · have:=lowm _ ((h (y.to + 1)).1 (inl _ (by omega) (by omega)));omega
     have e:x = y:=by cases x;cases y;simp only at e1 e2;rw [e1,e2]
     subst e
     rw [ih hl' hm' (fun n=>?_)]
     constructor
     · intro q
       have:=lL hl q
       rcases (bm _ _ _).1 ((h n).1 ((bm _ _ _).2 (.inr q))) with z|z
       · omega
       · exact z
     · intro q
       have:=lL hm q
       rcases (bm _ _ _).1 ((h n).2 ((bm _ _ _).2 (.inr q))) with z|z
       · omega
       · exact z
def wa:Rn → List Rn → List Rn
 | c,[]=>[c]
 | c,r :: l=>if r.fr - c.to < 2 then wa ⟨c.fr,max c.to r.to⟩ l else c :: wa r l
def jo:List Rn → List Rn
 | []=>[]
 | x :: l=>wa x l
theorem EZ:∀ (l:List Rn) (c:Rn),∃ z t,wa c l = z :: t ∧ z.fr = c.fr:=by
 intro l
 induction l with
 | nil=>intro c;exact ⟨c,[],rfl,rfl⟩
 | cons r l ih=>
   intro c
   rw [wa]
   split
   · obtain ⟨z,t,h1,h2⟩:=ih ⟨c.fr,max c.to r.to⟩
     exact ⟨z,t,h1,h2⟩
   · exact ⟨c,_,rfl,rfl⟩
def rJ (l:List Rn):Prop:=l.Pairwise (fun a b=>a.fr ≤ b.fr)
theorem KI:∀ (l:List Rn) (c:Rn),rJ (c :: l) → (∀ r ∈ c :: l,ga r = true) → cK (wa c l) ∧ ∀ n,dD (wa c l) n ↔ dD (c :: l) n:=by
 intro l
 induction l with
 | nil=>
   intro c _ h
   exact ⟨(fg c []).2 ⟨h c (by simp),fun y hy=>by simp at hy,sj⟩,fun n=>Iff.rfl⟩
 | cons r l ih=>
   intro c hs h
   have hc:=h c (by simp)
   have hr:=h r (by simp)
   have hc':=(bu c).1 hc
   have hr':=(bu r).1 hr
   obtain ⟨s1,s2⟩:=List.pairwise_cons.1 hs
   have s3:=s1 r (by simp)
   obtain ⟨s4,s5⟩:=List.pairwise_cons.1 s2
   rw [wa]
   split
   · rename_i g
     have hm:ga ⟨c.fr,max c.to r.to⟩ = true:=(bu _).2 (by simp only;omega)
     have:=ih ⟨c.fr,max c.to r.to⟩ (List.pairwise_cons.2 ⟨fun z hz=>s1 z (List.mem_cons_of_mem _ hz),s5⟩) (fun z hz=>by
       rcases List.mem_cons.1 hz with rfl|hz
       · exact hm
       · exact h z (by simp [hz]))
     refine ⟨this.1,fun n=>?_⟩
     rw [this.2 n,bm,bm,bm]
     simp only [hm,hc,hr,true_and]
     constructor
     · rintro (q|q)
       · by_cases z:n ≤ c.to
         · exact .inl ⟨q.1,z⟩
         · exact .inr (.inl (by omega))
       · exact .inr (.inr q)
     · rintro (q|q|q)
       · exact .inl (by omega)
       · exact .inl (by omega)
       · exact .inr q
   · rename_i g
     have:=ih r s2 (fun z hz=>h z (List.mem_cons_of_mem _ hz))
     obtain ⟨z,t,e1,e2⟩:=EZ l r
     refine ⟨(fg _ _).2 ⟨hc,fun y hy=>?_,this.1⟩,fun n=>?_⟩
     · rw [e1] at hy
       cases hy
       omega
     · rw [bm,this.2 n,bm c]
theorem lM {l:List Rn} (hs:rJ l) (h:∀ r ∈ l,ga r = true):cK (jo l) ∧ ∀ n,dD (jo l) n ↔ dD l n:=by
 cases l with
 | nil=>exact ⟨sj,fun n=>Iff.rfl⟩
 | cons x l=>exact KI l x hs h
theorem IU:∀ (l:List Rn) (c:Rn),(wa c l).length ≤ l.length + 1:=by
 intro l
 induction l with
 | nil=>intro c;simp [wa]
 | cons r l ih=>
   intro c
   rw [wa]
   split
   · have:=ih ⟨c.fr,max c.to r.to⟩;simp;omega
   · have:=ih r;simp;omega
theorem yN (l:List Rn):(jo l).length ≤ l.length:=by
 cases l with
 | nil=>exact Nat.le_refl _
 | cons x l=>exact IU l x
def o0:List Rn → Rn → List Rn
 | [],x=>[x]
 | y :: l,x=>if x.fr ≤ y.fr then x :: y :: l else y :: o0 l x
theorem wb:∀ (l:List Rn) (x r:Rn),r ∈ o0 l x ↔ r = x ∨ r ∈ l:=by
 intro l
 induction l with
 | nil=>intro x r;simp [o0]
 | cons y l ih=>
   intro x r
   rw [o0]
   split
   · simp
   · simp only [List.mem_cons,ih]
     constructor
     · rintro (h|h|h) <;> simp [h]
     · rintro (h|h|h) <;> simp [h]
theorem E3:∀ (l:List Rn) (x:Rn),rJ l → rJ (o0 l x):=by
 intro l
 induction l with
 | nil=>intro x _;simp [o0,rJ]
 | cons y l ih=>
   intro x h
   obtain ⟨h1,h2⟩:=List.pairwise_cons.1 h
   rw [o0]
   split
   · rename_i g
     refine List.pairwise_cons.2 ⟨fun z hz=>?_,h⟩
     rcases List.mem_cons.1 hz with rfl|hz
     · exact g
     · have:=h1 z hz;omega
   · refine List.pairwise_cons.2 ⟨fun z hz=>?_,ih x h2⟩
     rcases (wb l x z).1 hz with rfl|hz
     · omega
     · exact h1 z hz
theorem E4:∀ (l:List Rn) (x:Rn),(o0 l x).length = l.length + 1:=by
 intro l
 induction l with
 | nil=>intro x;rfl
 | cons y l ih=>intro x;rw [o0];split <;> simp [ih]
def yO (l:List Rn):List Rn:=l.foldr (fun x a=>o0 a x) []
theorem qg:∀ (l:List Rn) (r:Rn),r ∈ yO l ↔ r ∈ l:=by
 intro l
 induction l with
 | nil=>intro _;rfl
 | cons x l ih=>intro r;show r ∈ o0 (yO l) x ↔ _;rw [wb,ih,List.mem_cons]
theorem wc:∀ (l:List Rn),rJ (yO l):=by
 intro l
 induction l with
 | nil=>exact List.Pairwise.nil
 | cons x l ih=>exact E3 _ _ ih
theorem E5:∀ (l:List Rn),(yO l).length = l.length:=by
 intro l
 induction l with
 | nil=>rfl
 | cons x l ih=>show (o0 (yO l) x).length = _;rw [E4,ih];rfl
def ofR (l:List Rn):List Rn:=jo (yO (l.filter ga))
theorem mi (l:List Rn):cK (ofR l):=(lM (wc _) (fun _ hr=>(List.mem_filter.1 ((qg _ _).1 hr)).2)).1
theorem e9 (l:List Rn) (n:Int):dD (ofR l) n ↔ dD l n:=by
 unfold ofR
 rw [(lM (wc _) (fun _ hr=>(List.mem_filter.1 ((qg _ _).1 hr)).2)).2 n,si (qg _) n,oS]
theorem tP (l:List Rn):(ofR l).length ≤ l.length:=by
 have h1:=yN (yO (l.filter ga))
 rw [E5] at h1
 exact Nat.le_trans h1 (List.length_filter_le _ _)
theorem yP {l m:List Rn} (h:cK m) (e:∀ n,dD m n ↔ dD l n):ofR l = m:=
 qf (mi l) h (fun n=>(e9 l n).trans (e n).symm)
theorem tQ {l:List Rn} (h:cK l):ofR l = l:=yP h (fun _=>Iff.rfl)
theorem yQ {l s:List Rn} (hs:rJ s) (h:∀ r,r ∈ s ↔ r ∈ l.filter ga):jo s = ofR l:=by
 have:=lM hs (fun r hr=>(List.mem_filter.1 ((h r).1 hr)).2)
 refine (yP this.1 (fun n=>?_)).symm
 rw [this.2 n,si h n,oS]
theorem wd {l m:List Rn} (h:∀ n,dD l n ↔ dD m n):ofR l = ofR m:=yP (mi m) (fun n=>(e9 m n).trans (h n).symm)
end Go.Proofs.YtembiemaiacdfaaGreat
namespace Go.Proofs.YtembiemaiacdfaaGreat
open Go.RowKit Go.Shelf
abbrev BT:={s:ByteArray // s.size ≤ 1000000000000}
instance:Inhabited BT:=⟨⟨⟨#[]⟩,by decide⟩⟩
def yR (x y:BT):Int:=bG x.1 y.1
theorem wg:Sort.SWO (ltOf yR) where
 irrefl x:=by unfold ltOf yR;rw [qd];rfl
 trans x y z h1 h2:=by
   unfold ltOf yR at *
   rw [decide_eq_true_eq,eM] at *
   grind
 ntrans x y z h1 h2:=by
   unfold ltOf yR at *
   rw [decide_eq_false_iff_not,eM] at *
   grind
def l5 (l:List ByteArray):List ByteArray:=if h:∀ s ∈ l,s.size ≤ 1000000000000 then (iy yR (l.pmap Subtype.mk h)).map Subtype.val else l
theorem qh {l:List ByteArray} (h:∀ s ∈ l,s.size ≤ 1000000000000):(l5 l).Perm l ∧ (l5 l).Pairwise (fun x y=>¬ y < x):=by
 unfold l5
 rw [dif_pos h]
 obtain ⟨h1,h2⟩:=fX wg (l.pmap Subtype.mk h)
 refine ⟨?_,?_⟩
 · have:=h1.map Subtype.val
   rwa [List.map_pmap,List.pmap_eq_map,List.map_id'] at this
 · rw [List.pairwise_map]
   refine h2.imp fun {x y} q=>?_
   unfold ltOf yR at q
   rw [decide_eq_false_iff_not,eM] at q
   exact q
abbrev BRn:={r:Rn // ga r = true}
instance:Inhabited BRn:=⟨⟨⟨1,1⟩,by decide⟩⟩
def qi (x y:BRn):Int:=x.1.fr - y.1.fr
theorem sm:Sort.SWO (ltOf qi) where
 irrefl x:=by unfold ltOf qi;simp
 trans x y z h1 h2:=by unfold ltOf qi at *;simp at *;omega
 ntrans x y z h1 h2:=by unfold ltOf qi at *;simp at *;omega
def ke (l:List Rn):List Rn:=if h:∀ r ∈ l,ga r = true then (iy qi (l.pmap Subtype.mk h)).map Subtype.val else l
theorem wh {l:List Rn} (h:∀ r ∈ l,ga r = true):(ke l).Perm l ∧ rJ (ke l):=by
 unfold ke rJ
 rw [dif_pos h]
 obtain ⟨h1,h2⟩:=fX sm (l.pmap Subtype.mk h)
 refine ⟨?_,?_⟩
 · have:=h1.map Subtype.val
   rwa [List.map_pmap,List.pmap_eq_map,List.map_id'] at this
 · rw [List.pairwise_map]
   refine h2.imp fun {x y} q=>?_
   unfold ltOf qi at q
   simp at q
   omega
theorem qj {F : FuncId} {fn : Func} (h : Tryz.prog.funcs[F]? = some fn) (h1 : (fn.name == "runtime.NumGoroutine") = false) (h2 : fn.body.isNone = false) : JX Tryz.prog F := ⟨fn, h, h1, h2⟩
section
def so_str_ren:Go.Shelf.Ren:=⟨fun|6=>146|14=>190|15=>189|20=>225|21=>226|22=>227|23=>228|24=>229|25=>230|26=>231|27=>232|28=>223|29=>224|46=>257|47=>253|48=>254|49=>258|50=>259|57=>268|n=>n,fun|0=>0|3=>3|4=>4|5=>5|9=>9|22=>139|24=>9|25=>165|39=>231|45=>253|46=>254|50=>258|53=>261|55=>48|66=>283|70=>287|76=>296|77=>297|n=>n,fun n=>n⟩
theorem KJ:SlLaysF.n6 Tryz.prog so_str_ren:={ mixed:=by kernel_rfl,f6:=⟨Tryz.f146.name,by decide,Tryz.func146.trans (congrArg some (by kernel_rfl))⟩,f14:=⟨Tryz.f190.name,by decide,Tryz.func190.trans (congrArg some (by kernel_rfl))⟩,f15:=Tryz.func189.trans (congrArg some (by kernel_rfl)),f20:=⟨Tryz.f225.name,by decide,Tryz.func225.trans (congrArg some (by kernel_rfl))⟩,f21:=⟨Tryz.f226.name,by decide,Tryz.func226.trans (congrArg some (by kernel_rfl))⟩,f22:=⟨Tryz.f227.name,by decide,Tryz.func227.trans (congrArg some (by kernel_rfl))⟩,f23:=⟨Tryz.f228.name,by decide,Tryz.func228.trans (congrArg some (by kernel_rfl))⟩,f24:=⟨Tryz.f229.name,by decide,Tryz.func229.trans (congrArg some (by kernel_rfl))⟩,f25:=⟨Tryz.f230.name,by decide,Tryz.func230.trans (congrArg some (by kernel_rfl))⟩,f26:=⟨Tryz.f231.name,by decide,Tryz.func231.trans (congrArg some (by kernel_rfl))⟩,f27:=⟨Tryz.f232.name,by decide,Tryz.func232.trans (congrArg some (by kernel_rfl))⟩,f28:=Tryz.func223.trans (congrArg some (by kernel_rfl)),f29:=Tryz.func224.trans (congrArg some (by kernel_rfl)),f46:=⟨Tryz.f257.name,by decide,Tryz.func257.trans (congrArg some (by kernel_rfl))⟩,f47:=Tryz.func253.trans (congrArg some (by kernel_rfl)),f48:=Tryz.func254.trans (congrArg some (by kernel_rfl)),f49:=⟨Tryz.f258.name,by decide,Tryz.func258.trans (congrArg some (by kernel_rfl))⟩,f50:=⟨Tryz.f259.name,by decide,Tryz.func259.trans (congrArg some (by kernel_rfl))⟩,f57:=⟨Tryz.f268.name,by decide,Tryz.func268.trans (congrArg some (by kernel_rfl))⟩,t0:=Tryz.underlying0,a0:=Tryz.isAgg0,z0:=Tryz.sizeOf0,v0:=Tryz.zeroValue0,t3:=Tryz.underlying3,a3:=Tryz.isAgg3,z3:=Tryz.sizeOf3,v3:=Tryz.zeroValue3,t4:=Tryz.underlying4,a4:=Tryz.isAgg4,z4:=Tryz.sizeOf4,v4:=Tryz.zeroValue4,t5:=Tryz.underlying5,a5:=Tryz.isAgg5,z5:=Tryz.sizeOf5,v5:=Tryz.zeroValue5,t9:=Tryz.underlying9,a9:=Tryz.isAgg9,z9:=Tryz.sizeOf9,v9:=Tryz.zeroValue9,t22:=Tryz.underlying139,a22:=Tryz.isAgg139,z22:=Tryz.sizeOf139,v22:=Tryz.zeroValue139,t25:=Tryz.underlying165,a25:=Tryz.isAgg165,z25:=Tryz.sizeOf165,v25:=Tryz.zeroValue165,t39:=Tryz.underlying231,a39:=Tryz.isAgg231,z39:=Tryz.sizeOf231,v39:=Tryz.zeroValue231,t45:=Tryz.underlying253,a45:=Tryz.isAgg253,z45:=Tryz.sizeOf253,v45:=Tryz.zeroValue253,t46:=Tryz.underlying254,a46:=Tryz.isAgg254,z46:=Tryz.sizeOf254,v46:=Tryz.zeroValue254,t50:=Tryz.underlying258,a50:=Tryz.isAgg258,z50:=Tryz.sizeOf258,v50:=Tryz.zeroValue258,t53:=Tryz.underlying261,a53:=Tryz.isAgg261,z53:=Tryz.sizeOf261,v53:=Tryz.zeroValue261,t55:=Tryz.underlying48,a55:=Tryz.isAgg48,z55:=Tryz.sizeOf48,v55:=Tryz.zeroValue48,t66:=Tryz.underlying283,a66:=Tryz.isAgg283,z66:=Tryz.sizeOf283,v66:=Tryz.zeroValue283,t70:=Tryz.underlying287,a70:=Tryz.isAgg287,z70:=Tryz.sizeOf287,v70:=Tryz.zeroValue287,t76:=Tryz.underlying296,a76:=Tryz.isAgg296,z76:=Tryz.sizeOf296,v76:=Tryz.zeroValue296,t77:=Tryz.underlying297,a77:=Tryz.isAgg297,z77:=Tryz.sizeOf297,v77:=Tryz.zeroValue297,a24:=Tryz.isAgg9,z24:=Tryz.sizeOf9 }
theorem E6 (l:List ByteArray) (h:∀ s ∈ l,s.size ≤ 1000000000000) (hl:l.length ≤ 1000000000) :
   el Tryz.prog 146 [.row 1000 0,.per (aq (.func (.func 120) #[] #[]))] [(1000,.row 9 1 (l.map strP))] .any [(1000,.row 9 1 ((l5 l).map strP))]:=by
 have:=BW (e:=9) (G:=120) KJ (enc:=fun x:BT=>Value.string x.1) (fun _=>rfl) wg (enters_of Tryz.func120 (by kernel_rfl) rfl)
   (fun x y w=>v7 x.1 y.1 x.2 w) (qj Tryz.func146 (by kernel_rfl) (by kernel_rfl)) (l.pmap Subtype.mk h) (by rw [List.length_pmap];omega)
 have e1:(l.pmap Subtype.mk h).map (dI fun x:BT=>[Value.string x.1]) = l.map strP:=by rw [List.map_pmap];exact List.pmap_eq_map (f:=strP) h
 have e2:(iy yR (l.pmap Subtype.mk h)).map (dI fun x:BT=>[Value.string x.1]) = (l5 l).map strP:=by unfold l5;rw [dif_pos h,List.map_map];rfl
 rw [e1,e2] at this
 exact this
def so_run_ren:Go.Shelf.Ren:=⟨fun|6=>235|14=>261|15=>189|20=>269|21=>270|22=>271|23=>272|24=>273|25=>274|26=>275|27=>276|28=>223|29=>224|46=>278|47=>253|48=>254|49=>279|50=>280|57=>281|n=>n,fun|0=>0|3=>3|4=>4|5=>5|9=>9|22=>128|24=>132|25=>272|39=>231|45=>253|46=>254|50=>258|53=>261|55=>48|66=>283|70=>287|76=>296|77=>297|n=>n,fun n=>n⟩
theorem KK:SlLaysF0.n6 Tryz.prog so_run_ren:={ mixed:=by kernel_rfl,f6:=⟨Tryz.f235.name,by decide,Tryz.func235.trans (congrArg some (by kernel_rfl))⟩,f14:=⟨Tryz.f261.name,by decide,Tryz.func261.trans (congrArg some (by kernel_rfl))⟩,f15:=Tryz.func189.trans (congrArg some (by kernel_rfl)),f20:=⟨Tryz.f269.name,by decide,Tryz.func269.trans (congrArg some (by kernel_rfl))⟩,f21:=⟨Tryz.f270.name,by decide,Tryz.func270.trans (congrArg some (by kernel_rfl))⟩,f22:=⟨Tryz.f271.name,by decide,Tryz.func271.trans (congrArg some (by kernel_rfl))⟩,f23:=⟨Tryz.f272.name,by decide,Tryz.func272.trans (congrArg some (by kernel_rfl))⟩,f24:=⟨Tryz.f273.name,by decide,Tryz.func273.trans (congrArg some (by kernel_rfl))⟩,f25:=⟨Tryz.f274.name,by decide,Tryz.func274.trans (congrArg some (by kernel_rfl))⟩,f26:=⟨Tryz.f275.name,by decide,Tryz.func275.trans (congrArg some (by kernel_rfl))⟩,f27:=⟨Tryz.f276.name,by decide,Tryz.func276.trans (congrArg some (by kernel_rfl))⟩,f28:=Tryz.func223.trans (congrArg some (by kernel_rfl)),f29:=Tryz.func224.trans (congrArg some (by kernel_rfl)),f46:=⟨Tryz.f278.name,by decide,Tryz.func278.trans (congrArg some (by kernel_rfl))⟩,f47:=Tryz.func253.trans (congrArg some (by kernel_rfl)),f48:=Tryz.func254.trans (congrArg some (by kernel_rfl)),f49:=⟨Tryz.f279.name,by decide,Tryz.func279.trans (congrArg some (by kernel_rfl))⟩,f50:=⟨Tryz.f280.name,by decide,Tryz.func280.trans (congrArg some (by kernel_rfl))⟩,f57:=⟨Tryz.f281.name,by decide,Tryz.func281.trans (congrArg some (by kernel_rfl))⟩,t0:=Tryz.underlying0,a0:=Tryz.isAgg0,z0:=Tryz.sizeOf0,v0:=Tryz.zeroValue0,t3:=Tryz.underlying3,a3:=Tryz.isAgg3,z3:=Tryz.sizeOf3,v3:=Tryz.zeroValue3,t4:=Tryz.underlying4,a4:=Tryz.isAgg4,z4:=Tryz.sizeOf4,v4:=Tryz.zeroValue4,t5:=Tryz.underlying5,a5:=Tryz.isAgg5,z5:=Tryz.sizeOf5,v5:=Tryz.zeroValue5,t9:=Tryz.underlying9,a9:=Tryz.isAgg9,z9:=Tryz.sizeOf9,v9:=Tryz.zeroValue9,t22:=Tryz.underlying128,a22:=Tryz.isAgg128,z22:=Tryz.sizeOf128,v22:=Tryz.zeroValue128,t25:=Tryz.underlying272,a25:=Tryz.isAgg272,z25:=Tryz.sizeOf272,v25:=Tryz.zeroValue272,t39:=Tryz.underlying231,a39:=Tryz.isAgg231,z39:=Tryz.sizeOf231,v39:=Tryz.zeroValue231,t45:=Tryz.underlying253,a45:=Tryz.isAgg253,z45:=Tryz.sizeOf253,v45:=Tryz.zeroValue253,t46:=Tryz.underlying254,a46:=Tryz.isAgg254,z46:=Tryz.sizeOf254,v46:=Tryz.zeroValue254,t50:=Tryz.underlying258,a50:=Tryz.isAgg258,z50:=Tryz.sizeOf258,v50:=Tryz.zeroValue258,t53:=Tryz.underlying261,a53:=Tryz.isAgg261,z53:=Tryz.sizeOf261,v53:=Tryz.zeroValue261,t55:=Tryz.underlying48,a55:=Tryz.isAgg48,z55:=Tryz.sizeOf48,v55:=Tryz.zeroValue48,t66:=Tryz.underlying283,a66:=Tryz.isAgg283,z66:=Tryz.sizeOf283,v66:=Tryz.zeroValue283,t70:=Tryz.underlying287,a70:=Tryz.isAgg287,z70:=Tryz.sizeOf287,v70:=Tryz.zeroValue287,t76:=Tryz.underlying296,a76:=Tryz.isAgg296,z76:=Tryz.sizeOf296,v76:=Tryz.zeroValue296,t77:=Tryz.underlying297,a77:=Tryz.isAgg297,z77:=Tryz.sizeOf297,v77:=Tryz.zeroValue297 }
theorem E7 (x y:Rn) (hx:ga x = true) (hy:ga y = true) (w:World) :
   Calls Tryz.prog 236 #[.agg #[.int .i64 x.fr,.int .i64 x.to],.agg #[.int .i64 y.fr,.int .i64 y.to]] w fun e w'=>e = .returned (.int .i64 (x.fr - y.fr)) ∧ Gw w w':=by
 have h1:=(bu x).1 hx
 have h2:=(bu y).1 hy
 go_enter Tryz.func236,Tryz.ntmps236
 go_wp2
 go_ret
 exact ⟨rfl,((Gw.refl w).alloc _).alloc _⟩
theorem E8 (l:List Rn) (h:∀ r ∈ l,ga r = true) (hl:l.length ≤ 1000000000) :
   el Tryz.prog 235 [.row 1000 0,.per (aq (.func (.func 236) #[] #[]))] [(1000,.row 132 2 (l.map rnP))] .any [(1000,.row 132 2 ((ke l).map rnP))]:=by
 have:=n5 (e:=132) (k:=2) (G:=236) KK Tryz.isAgg132 Tryz.sizeOf132 (enc:=fun x:BRn=>encRn x.1) ⟨by decide,fun _=>rfl,fun x=>v6.one x.1⟩ sm (enters_of Tryz.func236 (by kernel_rfl) rfl)
   (fun x y w=>E7 x.1 y.1 x.2 y.2 w) (qj Tryz.func235 (by kernel_rfl) (by kernel_rfl)) (l.pmap Subtype.mk h) (by rw [List.length_pmap];omega)
 have e1:(l.pmap Subtype.mk h).map (dI fun x:BRn=>encRn x.1) = l.map rnP:=by rw [List.map_pmap];exact List.pmap_eq_map (f:=rnP) h
 have e2:(iy qi (l.pmap Subtype.mk h)).map (dI fun x:BRn=>encRn x.1) = (ke l).map rnP:=by unfold ke;rw [dif_pos h,List.map_map];rfl
 rw [e1,e2] at this
 exact this
end
theorem eD {p:Nat → Prop} {z:Nat} (h:∀ i,i < z → p i) (h':p z):∀ i,i < z + 1 → p i:=fun i hi=>by
 rcases Nat.lt_or_ge i z with q|q
 · exact h i q
 · obtain rfl:i = z:=by omega
   exact h'
def jB (s:List Kn):Prop:=s.length ≤ 1000000000 ∧ ∀ k ∈ s,k.runs.length ≤ 1000000000
theorem jB.at {s:List Kn} (h:jB s) {i:Nat} (hi:i < s.length):s[i].runs.length ≤ 1000000000:=h.2 _ (List.getElem_mem hi)
section
theorem tR (r:Rn):Fn Tryz.prog 192 [MM r] (bO (ga r)):=by
 refine fi Tryz.func192 Tryz.ntmps192 ?_
 (refine wH ?_;(repeat' first|refine W2.mk ?_ ?_|refine W1.mk fun hc=>?_))
 refine aQ ?_
 refine cu (fD ?_)
 rw [ga,Bool.eq_iff_iff];simp;omega
theorem mZ (r:Rn):Fn Tryz.prog 183 [MM r] (bO (ga r)):=by
 refine fi Tryz.func183 Tryz.ntmps183 ?_
 (refine wH ?_;(repeat' first|refine W2.mk ?_ ?_|refine W1.mk fun hc=>?_))
 refine aQ ?_
 refine cu (fD ?_)
 rw [ga,Bool.eq_iff_iff];simp;omega
theorem oc (l:List Rn) (hl:l.length ≤ 1000000000) (b:Bool) (hb:b = true ↔ cK l):Fn Tryz.prog 167 [eC l] (bO b):=by
 refine fi Tryz.func167 Tryz.ntmps167 ?_
 (refine w0 ?_;(repeat' first|refine W2.mk ?_ ?_|refine W1.mk fun hc=>?_))
 refine ah (X:=Nat) (fun z=>z ≤ l.length ∧ ∀ i,i < z → qb l i)
   (fun z=>aN [(0,eC l),(5,eC l),(6,iC .i64 (l.length:Nat)),(7,iC .i64 (z:Nat))] []) (fun z=>l.length - z) 0 ⟨Nat.zero_le _,fun i h=>absurd h (Nat.not_lt_zero _)⟩ ?_ ?_
 · exact ab
 · rintro z ⟨h1,h2⟩
   by_cases hz:z < l.length
   · have hir:=tR l[z]
     have hno:¬ qb l z → b = false:=fun h=>by rw [← Bool.not_eq_true,hb];exact fun q=>h (q z hz)
     cases hr:ga l[z] with
     | false=>
       have hb0:=hno (fun h=>by have:=(h hz).1;rw [hr] at this;cases this)
       subst hb0
       clear hb hno h2
       rw [hr] at hir
       (have kc1:=hir;refine w0 ?_;(repeat' first|refine W2.mk ?_ ?_|refine W1.mk fun hc=>?_);all_goals clear kc1)
       refine aQ ?_
       exact af rfl rfl
     | true=>
       rw [hr] at hir
       have hrz:=(bu _).1 hr
       by_cases h0:0 < z
       · obtain ⟨q,rfl⟩:∃ q,z = q + 1:=⟨z - 1,by omega⟩
         have hqE:((q + 1:Nat):Int) - 1 = (q:Nat):=by omega
         have hrq:=(bu _).1 ((h2 q (by omega)) (by omega)).1
         by_cases hlt:l[q].to + 2 ≤ l[q + 1].fr
         · have hok:qb l (q + 1):=fun _=>⟨hr,fun _=>hlt⟩
           clear hb hno
           (have ke1:=Lib.hid (hqE);have kc1:=hir;refine bq ?_;(repeat' first|refine W2.mk ?_ ?_|refine W1.mk fun hc=>?_);all_goals clear kc1 ke1)
           refine ⟨q + 1 + 1,⟨by omega,eD h2 hok⟩,by omega,?_⟩
           exact ab
         · have hb0:=hno (fun h=>hlt ((h hz).2 h0))
           subst hb0
           clear hb hno h2
           (have ke1:=Lib.hid (hqE);have kc1:=hir;refine bq ?_;(repeat' first|refine W2.mk ?_ ?_|refine W1.mk fun hc=>?_);all_goals clear kc1 ke1)
           refine aQ ?_
           exact af rfl rfl
       · have hok:qb l z:=fun _=>⟨hr,fun h=>absurd h h0⟩
         clear hb hno
         (have kc1:=hir;refine w0 ?_;(repeat' first|refine W2.mk ?_ ?_|refine W1.mk fun hc=>?_);all_goals clear kc1)
         refine ⟨z + 1,⟨by omega,eD h2 hok⟩,by omega,?_⟩
         exact ab
   · have hb1:b = true:=hb.2 (fun i hi=>h2 i (by omega))
     subst hb1
     clear hb h2
     (refine w0 ?_;(repeat' first|refine W2.mk ?_ ?_|refine W1.mk fun hc=>?_))
     refine aQ ?_
     exact af rfl rfl
theorem yS (l:List Rn) (hl:l.length ≤ 1000000000) (b:Bool) (hb:b = true ↔ cK l):Fn Tryz.prog 135 [eC l] (bO b):=by
 refine fi Tryz.func135 Tryz.ntmps135 ?_
 (refine w0 ?_;(repeat' first|refine W2.mk ?_ ?_|refine W1.mk fun hc=>?_))
 refine ah (X:=Nat) (fun z=>z ≤ l.length ∧ ∀ i,i < z → qb l i)
   (fun z=>aN [(0,eC l),(3,iC .i64 (z:Nat))] []) (fun z=>l.length - z) 0 ⟨Nat.zero_le _,fun i h=>absurd h (Nat.not_lt_zero _)⟩ ?_ ?_
 · exact ab
 · rintro z ⟨h1,h2⟩
   by_cases hz:z < l.length
   · have hir:=mZ l[z]
     have hno:¬ qb l z → b = false:=fun h=>by rw [← Bool.not_eq_true,hb];exact fun q=>h (q z hz)
     cases hr:ga l[z] with
     | false=>
       have hb0:=hno (fun h=>by have:=(h hz).1;rw [hr] at this;cases this)
       subst hb0
       clear hb hno h2
       rw [hr] at hir
       (have kc1:=hir;refine w0 ?_;(repeat' first|refine W2.mk ?_ ?_|refine W1.mk fun hc=>?_);all_goals clear kc1)
       refine aQ ?_
       exact af rfl rfl
     | true=>
       rw [hr] at hir
       have hrz:=(bu _).1 hr
       by_cases h0:0 < z
       · obtain ⟨q,rfl⟩:∃ q,z = q + 1:=⟨z - 1,by omega⟩
         have hqE:((q + 1:Nat):Int) - 1 = (q:Nat):=by omega
         have hrq:=(bu _).1 ((h2 q (by omega)) (by omega)).1
         by_cases hlt:l[q].to + 2 ≤ l[q + 1].fr
         · have hok:qb l (q + 1):=fun _=>⟨hr,fun _=>hlt⟩
           clear hb hno
           (have ke1:=Lib.hid (hqE);have kc1:=hir;refine bq ?_;(repeat' first|refine W2.mk ?_ ?_|refine W1.mk fun hc=>?_);all_goals clear kc1 ke1)
           refine ⟨q + 1 + 1,⟨by omega,eD h2 hok⟩,by omega,?_⟩
           exact ab
         · have hb0:=hno (fun h=>hlt ((h hz).2 h0))
           subst hb0
           clear hb hno h2
           (have ke1:=Lib.hid (hqE);have kc1:=hir;refine bq ?_;(repeat' first|refine W2.mk ?_ ?_|refine W1.mk fun hc=>?_);all_goals clear kc1 ke1)
           refine aQ ?_
           exact af rfl rfl
       · have hok:qb l z:=fun _=>⟨hr,fun h=>absurd h h0⟩
         clear hb hno
         (have kc1:=hir;refine w0 ?_;(repeat' first|refine W2.mk ?_ ?_|refine W1.mk fun hc=>?_);all_goals clear kc1)
         refine ⟨z + 1,⟨by omega,eD h2 hok⟩,by omega,?_⟩
         exact ab
   · have hb1:b = true:=hb.2 (fun i hi=>h2 i (by omega))
     subst hb1
     clear hb h2
     (refine w0 ?_;(repeat' first|refine W2.mk ?_ ?_|refine W1.mk fun hc=>?_))
     refine aQ ?_
     exact af rfl rfl
theorem mj (n:Int):Fn Tryz.prog 166 [iC .i64 n] (bO (decide (1 ≤ n ∧ n ≤ 16))):=by
 refine fi Tryz.func166 Tryz.ntmps166 ?_
 (refine wH ?_;(repeat' first|refine W2.mk ?_ ?_|refine W1.mk fun hc=>?_))
 refine aQ ?_
 refine cu (fD ?_)
 rw [Bool.eq_iff_iff];simp
theorem E9 (l:List Kn) (hl:jB l) (b:Bool) (hb:b = true ↔ bK l):Fn Tryz.prog 122 [eh l] (bO b):=by
 have hl0:=hl.1
 refine fi Tryz.func122 Tryz.ntmps122 ?_
 (refine w0 ?_;(repeat' first|refine W2.mk ?_ ?_|refine W1.mk fun hc=>?_))
 refine ah (X:=Nat × Int) (fun z=>z.1 ≤ l.length ∧ (∀ i,i < z.1 → yL l i) ∧ (z.1 = 0 → z.2 = 0) ∧ (∀ (h:z.1 - 1 < l.length),0 < z.1 → z.2 = l[z.1 - 1].rep))
   (fun z=>aN [(3,iC .i64 z.2),(6,eh l),(7,iC .i64 (l.length:Nat)),(8,iC .i64 (z.1:Nat))] []) (fun z=>l.length - z.1) (0,0) ⟨Nat.zero_le _,fun i h=>absurd h (Nat.not_lt_zero _),fun _=>rfl,fun _ h=>absurd h (by simp)⟩ ?_ ?_
 · exact ab
 · rintro ⟨z,was⟩ ⟨h1,h2,h3,h4⟩
   simp only at h1 h2 h3 h4 ⊢
   by_cases hz:z < l.length
   · have c1:=mj l[z].rep
     have c2:=oc l[z].runs (hl.at hz) (decide (cK l[z].runs)) (by simp)
     have h4':=h4 (by omega)
     have hE:l[z].runs ≠ [] ↔ ¬ l[z].runs.length = 0:=by simp
     by_cases hok:yL l z
     · obtain ⟨a1,a2,a3,a4,a5⟩:=hok hz
       rw [decide_eq_true ⟨a1,a2⟩] at c1
       rw [decide_eq_true a4] at c2
       have a6:was < l[z].rep:=by
         rcases Nat.eq_zero_or_pos z with q|q
         · have:=h3 q;omega
         · rw [h4' q];exact a5 q
       rw [hE] at a3
       clear hb h3 h4 h4' hE a4 a5
       (have kc1:=c1;have kc2:=c2;refine w0 ?_;(repeat' first|refine W2.mk ?_ ?_|refine W1.mk fun hc=>?_);all_goals clear kc2 kc1)
       refine ⟨(z + 1,l[z].rep),⟨by simp only;omega,eD h2 hok,fun h=>by simp at h,fun h _=>rfl⟩,by simp only;omega,?_⟩
       exact ab
     · have hb0:b = false:=by rw [← Bool.not_eq_true,hb];exact fun q=>hok (q z hz)
       subst hb0
       have hno:¬ (1 ≤ l[z].rep ∧ l[z].rep ≤ 16 ∧ ¬ l[z].runs.length = 0 ∧ cK l[z].runs ∧ was < l[z].rep):=fun ⟨a1,a2,a3,a4,a5⟩=>hok (fun _=>⟨a1,a2,hE.2 a3,a4,fun q=>by rw [← h4' q];exact a5⟩)
       clear hb h2 h3 h4 h4' hE hok
       by_cases q1:1 ≤ l[z].rep ∧ l[z].rep ≤ 16
       · rw [decide_eq_true q1] at c1
         by_cases q2:was < l[z].rep
         · by_cases q3:l[z].runs.length = 0
           · clear hno
             (have kc1:=c1;have kc2:=c2;refine w0 ?_;(repeat' first|refine W2.mk ?_ ?_|refine W1.mk fun hc=>?_);all_goals clear kc2 kc1)
             refine aQ ?_
             exact af rfl rfl
           · by_cases q4:cK l[z].runs
             · exact absurd ⟨q1.1,q1.2,q3,q4,q2⟩ hno
             · rw [decide_eq_false q4] at c2
               clear hno q4
               (have kc1:=c1;have kc2:=c2;refine w0 ?_;(repeat' first|refine W2.mk ?_ ?_|refine W1.mk fun hc=>?_);all_goals clear kc2 kc1)
               refine aQ ?_
               exact af rfl rfl
         · clear hno
           (have kc1:=c1;have kc2:=c2;refine w0 ?_;(repeat' first|refine W2.mk ?_ ?_|refine W1.mk fun hc=>?_);all_goals clear kc2 kc1)
           refine aQ ?_
           exact af rfl rfl
       · rw [decide_eq_false q1] at c1
         clear hno q1
         (have kc1:=c1;have kc2:=c2;refine w0 ?_;(repeat' first|refine W2.mk ?_ ?_|refine W1.mk fun hc=>?_);all_goals clear kc2 kc1)
         refine aQ ?_
         exact af rfl rfl
   · have hb1:b = true:=hb.2 (fun i hi=>h2 i (by omega))
     subst hb1
     clear hb h2 h3 h4
     (refine w0 ?_;(repeat' first|refine W2.mk ?_ ?_|refine W1.mk fun hc=>?_))
     refine aQ ?_
     exact af rfl rfl
theorem B5 (l:List Kn) (hl:jB l) (b:Bool) (hb:b = true ↔ bK l):Fn Tryz.prog 84 [eh l] (bO b):=by
 have hl0:=hl.1
 refine fi Tryz.func84 Tryz.ntmps84 ?_
 (refine w0 ?_;(repeat' first|refine W2.mk ?_ ?_|refine W1.mk fun hc=>?_))
 refine ah (X:=Nat) (fun z=>z ≤ l.length ∧ ∀ i,i < z → yL l i)
   (fun z=>aN [(0,eh l),(3,iC .i64 (z:Nat))] []) (fun z=>l.length - z) 0 ⟨Nat.zero_le _,fun i h=>absurd h (Nat.not_lt_zero _)⟩ ?_ ?_
 · exact ab
 · rintro z ⟨h1,h2⟩
   by_cases hz:z < l.length
   · have c2:=yS l[z].runs (hl.at hz) (decide (cK l[z].runs)) (by simp)
     have hE:l[z].runs ≠ [] ↔ ¬ l[z].runs.length = 0:=by simp
     by_cases hok:yL l z
     · obtain ⟨a1,a2,a3,a4,a5⟩:=hok hz
       rw [decide_eq_true a4] at c2
       rw [hE] at a3
       by_cases h0:0 < z
       · obtain ⟨q,rfl⟩:∃ q,z = q + 1:=⟨z - 1,by omega⟩
         have hqE:((q + 1:Nat):Int) - 1 = (q:Nat):=by omega
         have a6:l[q].rep < l[q + 1].rep:=a5 h0
         clear hb hE a4 a5
         (have ke1:=Lib.hid (hqE);have kc1:=c2;refine bq ?_;(repeat' first|refine W2.mk ?_ ?_|refine W1.mk fun hc=>?_);all_goals clear kc1 ke1)
         refine ⟨q + 1 + 1,⟨by omega,eD h2 hok⟩,by omega,?_⟩
         exact ab
       · clear hb hE a4 a5
         (have kc1:=c2;refine w0 ?_;(repeat' first|refine W2.mk ?_ ?_|refine W1.mk fun hc=>?_);all_goals clear kc1)
         refine ⟨z + 1,⟨by omega,eD h2 hok⟩,by omega,?_⟩
         exact ab
     · have hb0:b = false:=by rw [← Bool.not_eq_true,hb];exact fun q=>hok (q z hz)
       subst hb0
       by_cases h0:0 < z
       · obtain ⟨q,rfl⟩:∃ q,z = q + 1:=⟨z - 1,by omega⟩
         have hqE:((q + 1:Nat):Int) - 1 = (q:Nat):=by omega
         have hno:¬ (1 ≤ l[q + 1].rep ∧ l[q + 1].rep ≤ 16 ∧ ¬ l[q + 1].runs.length = 0 ∧ cK l[q + 1].runs ∧ l[q].rep < l[q + 1].rep):=fun ⟨a1,a2,a3,a4,a5⟩=>hok (fun _=>⟨a1,a2,hE.2 a3,a4,fun _=>a5⟩)
         clear hb h2 hE hok
         by_cases q4:cK l[q + 1].runs
         · rw [decide_eq_true q4] at c2
           have hno':¬ (1 ≤ l[q + 1].rep ∧ l[q + 1].rep ≤ 16 ∧ ¬ l[q + 1].runs.length = 0 ∧ l[q].rep < l[q + 1].rep):=fun ⟨a1,a2,a3,a5⟩=>hno ⟨a1,a2,a3,q4,a5⟩
           clear hno q4
           (have ke1:=Lib.hid (hqE);have kc1:=c2;refine bq ?_;(repeat' first|refine W2.mk ?_ ?_|refine W1.mk fun hc=>?_);all_goals clear kc1 ke1)
           all_goals refine aQ ?_
           all_goals exact af rfl rfl
         · rw [decide_eq_false q4] at c2
           clear hno q4
           (have ke1:=Lib.hid (hqE);have kc1:=c2;refine bq ?_;(repeat' first|refine W2.mk ?_ ?_|refine W1.mk fun hc=>?_);all_goals clear kc1 ke1)
           all_goals refine aQ ?_
           all_goals exact af rfl rfl
       · have hno:¬ (1 ≤ l[z].rep ∧ l[z].rep ≤ 16 ∧ ¬ l[z].runs.length = 0 ∧ cK l[z].runs):=fun ⟨a1,a2,a3,a4⟩=>hok (fun _=>⟨a1,a2,hE.2 a3,a4,fun h=>absurd h h0⟩)
         clear hb h2 hE hok
         by_cases q4:cK l[z].runs
         · rw [decide_eq_true q4] at c2
           have hno':¬ (1 ≤ l[z].rep ∧ l[z].rep ≤ 16 ∧ ¬ l[z].runs.length = 0):=fun ⟨a1,a2,a3⟩=>hno ⟨a1,a2,a3,q4⟩
           clear hno q4
           (have kc1:=c2;refine w0 ?_;(repeat' first|refine W2.mk ?_ ?_|refine W1.mk fun hc=>?_);all_goals clear kc1)
           all_goals refine aQ ?_
           all_goals exact af rfl rfl
         · rw [decide_eq_false q4] at c2
           clear hno q4
           (have kc1:=c2;refine w0 ?_;(repeat' first|refine W2.mk ?_ ?_|refine W1.mk fun hc=>?_);all_goals clear kc1)
           all_goals refine aQ ?_
           all_goals exact af rfl rfl
   · have hb1:b = true:=hb.2 (fun i hi=>h2 i (by omega))
     subst hb1
     clear hb h2
     (refine w0 ?_;(repeat' first|refine W2.mk ?_ ?_|refine W1.mk fun hc=>?_))
     refine aQ ?_
     exact af rfl rfl
def My (x y:Rn):Bool:=decide (x.fr = y.fr) && (decide (x.to = y.to) && true)
theorem pi (x y:Rn):My x y = true ↔ x = y:=by
 obtain ⟨a,b⟩:=x
 obtain ⟨a',b'⟩:=y
 simp [My]
theorem Ar (x y:Rn):Ab Tryz.prog 10000 132 (encRn x) (encRn y) = some (My x y):=by kernel_rfl
theorem Mj:Tryz.prog.eqGuardType Tryz.prog.depth 132 = false:=by kernel_rfl
theorem B6 (l m:List Rn) (hl:l.length ≤ 1000000000):Fn Tryz.prog 115 [eC l,eC m] (bO (decide (l = m))):=by
 refine fi Tryz.func115 Tryz.ntmps115 ?_
 (refine wH ?_;(repeat' first|refine W2.mk ?_ ?_|refine W1.mk fun hc=>?_))
 · refine aQ ?_
   exact af rfl (by symm;rw [decide_eq_false_iff_not];intro h;subst h;omega)
 have hlm:l.length = m.length:=by omega
 refine ah (fun k=>k ≤ l.length ∧ l.take k = m.take k) (fun k=>aN [(0,eC l),(1,eC m),(4,bC false),(5,iC .i64 (k:Nat))] []) (fun k=>l.length - k) 0 ⟨Nat.zero_le _,rfl⟩ ?_ ?_
 · exact ab
 · rintro k ⟨hk,hpre⟩
   by_cases hlt:k < l.length
   · have hltm:k < m.length:=by omega
     (refine wH ?_;(repeat' (first|refine W2.mk ?_ ?_|refine W1.mk fun hc=>?_|((first|apply aD rfl|apply aF rfl|apply aG rfl|apply aH rfl);(focus (first|(exact bJ (us:=encRn l[k]) (vs:=encRn m[k]) ⟨rfl,rfl,rfl⟩ rfl rfl rfl (.inr ⟨rfl,rfl⟩) Mj rfl (Ar l[k] m[k]))|(apply bx;(focus rfl);apply ag rfl rfl rfl rfl rfl;first|(exact bJ (us:=encRn l[k]) (vs:=encRn m[k]) ⟨rfl,rfl,rfl⟩ rfl rfl rfl (.inr ⟨rfl,rfl⟩) Mj rfl (Ar l[k] m[k])))));refine wH ?_))))
     · refine aQ ?_
       exact af rfl (by symm;rw [decide_eq_false_iff_not];intro h;subst h;simp [(pi l[k] l[k]).2 rfl] at *)
     · refine ⟨k + 1,⟨by omega,?_⟩,by omega,?_⟩
       · rw [aJ l k hlt,aJ m k hltm,hpre,(pi l[k] m[k]).1 (by simpa using hc)]
       · exact ab
   · (refine wH ?_;(repeat' first|refine W2.mk ?_ ?_|refine W1.mk fun hc=>?_))
     refine aQ ?_
     exact af rfl (by symm;rw [decide_eq_true_eq,← List.take_of_length_le (show l.length ≤ k by omega),hpre,List.take_of_length_le (by omega)])
theorem m0 (l m:List Kn) (hl:jB l):Fn Tryz.prog 62 [eh l,eh m] (bO (decide (l = m))):=by
 have hl0:=hl.1
 refine fi Tryz.func62 Tryz.ntmps62 ?_
 (refine w0 ?_;(repeat' first|refine W2.mk ?_ ?_|refine W1.mk fun hc=>?_))
 · refine aQ ?_
   exact af rfl (by symm;rw [decide_eq_false_iff_not];intro h;subst h;omega)
 have hlm:l.length = m.length:=by omega
 refine ah (fun k=>k ≤ l.length ∧ l.take k = m.take k) (fun k=>aN [(0,eh l),(1,eh m),(4,bC false),(5,iC .i64 (k:Nat))] []) (fun k=>l.length - k) 0 ⟨Nat.zero_le _,rfl⟩ ?_ ?_
 · exact ab
 · rintro k ⟨hk,hpre⟩
   by_cases hlt:k < l.length
   · have hltm:k < m.length:=by omega
     have c1:=B6 l[k].runs m[k].runs (hl.at hlt)
     have hE:l[k] = m[k] ↔ l[k].rep = m[k].rep ∧ l[k].runs = m[k].runs:=by
       constructor
       · intro h;rw [h];exact ⟨rfl,rfl⟩
       · rintro ⟨h1,h2⟩
         cases hx:l[k];cases hy:m[k]
         rw [hx,hy] at h1 h2
         simp only at h1 h2
         rw [h1,h2]
     by_cases h1:l[k].rep = m[k].rep
     · by_cases h2:l[k].runs = m[k].runs
       · rw [decide_eq_true h2] at c1
         clear hE
         have hlm1:l[k] = m[k]:=by
           cases hx:l[k];cases hy:m[k]
           rw [hx,hy] at h1 h2
           simp only at h1 h2
           rw [h1,h2]
         clear h2
         (have kc1:=c1;refine w0 ?_;(repeat' first|refine W2.mk ?_ ?_|refine W1.mk fun hc=>?_);all_goals clear kc1)
         refine ⟨k + 1,⟨by omega,?_⟩,by omega,?_⟩
         · rw [aJ l k hlt,aJ m k hltm,hpre,hlm1]
         · exact ab
       · rw [decide_eq_false h2] at c1
         have hd:¬ l = m:=fun h=>h2 (by subst h;rfl)
         rw [decide_eq_false hd]
         clear hE h2 hd
         (have kc1:=c1;refine w0 ?_;(repeat' first|refine W2.mk ?_ ?_|refine W1.mk fun hc=>?_);all_goals clear kc1)
         refine aQ ?_
         exact af rfl rfl
     · have hd:¬ l = m:=fun h=>h1 (by subst h;rfl)
       rw [decide_eq_false hd]
       clear hE hd
       (have kc1:=c1;refine w0 ?_;(repeat' first|refine W2.mk ?_ ?_|refine W1.mk fun hc=>?_);all_goals clear kc1)
       refine aQ ?_
       exact af rfl rfl
   · rw [List.take_of_length_le (by omega),List.take_of_length_le (by omega)] at hpre
     rw [decide_eq_true hpre]
     clear hpre
     (refine w0 ?_;(repeat' first|refine W2.mk ?_ ?_|refine W1.mk fun hc=>?_))
     refine aQ ?_
     exact af rfl rfl
def fE (l:List Kn) (most:Int):Bool:=decide ((l.length:Int) > most) || l.any fun k=>decide ((k.runs.length:Int) > most)
theorem Fa (l:List Kn) (most:Int) (hl:most ≤ 1000000000000):Fn Tryz.prog 82 [eh l,iC .i64 most] (bO (fE l most)):=by
 refine fi Tryz.func82 Tryz.ntmps82 ?_
 (refine w0 ?_;(repeat' first|refine W2.mk ?_ ?_|refine W1.mk fun hc=>?_))
 · refine aQ ?_
   exact af rfl (by unfold fE;rw [decide_eq_true hc];rfl)
 refine ah (fun k=>k ≤ l.length ∧ (l.take k).any (fun k=>decide ((k.runs.length:Int) > most)) = false) (fun k=>aN [(0,eh l),(1,iC .i64 most),(4,bC false),(5,iC .i64 (k:Nat))] []) (fun k=>l.length - k) 0 ⟨Nat.zero_le _,by simp⟩ ?_ ?_
 · exact ab
 · rintro k ⟨hk,hpre⟩
   by_cases hlt:k < l.length
   · have hsn:(l.take (k + 1)).any (fun k=>decide ((k.runs.length:Int) > most)) = ((l.take k).any (fun k=>decide ((k.runs.length:Int) > most)) || decide ((l[k].runs.length:Int) > most)):=by rw [aJ l k hlt,List.any_append];simp
     by_cases hq:(l[k].runs.length:Int) > most
     · have hd:fE l most = true:=by unfold fE;rw [Bool.or_eq_true,List.any_eq_true];exact .inr ⟨l[k],List.getElem_mem hlt,decide_eq_true hq⟩
       rw [hd]
       clear hd hsn hpre
       (refine w0 ?_;(repeat' first|refine W2.mk ?_ ?_|refine W1.mk fun hc=>?_))
       refine aQ ?_
       exact af rfl rfl
     · rw [hpre,decide_eq_false hq] at hsn
       clear hpre
       (refine w0 ?_;(repeat' first|refine W2.mk ?_ ?_|refine W1.mk fun hc=>?_))
       refine ⟨k + 1,⟨by omega,hsn⟩,by omega,?_⟩
       exact ab
   · have e:l.take k = l:=List.take_of_length_le (by omega)
     rw [e] at hpre
     have hd:fE l most = false:=by unfold fE;rw [hpre,Bool.or_false,decide_eq_false_iff_not];assumption
     rw [hd]
     clear hd hpre e
     (refine w0 ?_;(repeat' first|refine W2.mk ?_ ?_|refine W1.mk fun hc=>?_))
     refine aQ ?_
     exact af rfl rfl
theorem yT {l:List Kn} {most:Int} (h:fE l most = false):(l.length:Int) ≤ most ∧ ∀ k ∈ l,(k.runs.length:Int) ≤ most:=by
 unfold fE at h
 rw [Bool.or_eq_false_iff,decide_eq_false_iff_not] at h
 refine ⟨by omega,fun k hk=>?_⟩
 have:=List.any_eq_false.1 h.2 k hk
 simp at this;exact this
end
end Go.Proofs.YtembiemaiacdfaaGreat
