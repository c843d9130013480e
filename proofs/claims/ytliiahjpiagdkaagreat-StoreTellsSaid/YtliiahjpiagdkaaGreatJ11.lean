/- Texts joined: SoC Ord RnO SoS Kn. -/
import Derived.Test.YtliiahjpiagdkaaGreatJ06
import Derived.Test.YtliiahjpiagdkaaGreatJ09
import Derived.Test.YtliiahjpiagdkaaGreatJ10
import Derived.Deep.QuietTactic
import Derived.BigQuiet
import Derived.Test.YtliiahjpiagdkaaGreatJ05
set_option maxRecDepth 10000
set_option maxHeartbeats 8000000
namespace Go.Proofs.YtliiahjpiagdkaaGreat
open Go.RowKit Go.Shelf
theorem yk (s t:ByteArray) (hs:s.size ≤ 1000000000000) (w:World) :
 Calls Tryz.prog 61 #[.string s,.string t] w fun e w'=>e = .returned (.int .i64 (bu s t)) ∧ Gw w w':=by
 have HR:Hid (cz s.data.toList t.data.toList = bu s t):=Lib.hid rfl
 have es:s.data.toList.length = s.size:=by simp
 have et:t.data.toList.length = t.size:=by simp
 generalize hR:bu s t = R at *
 clear hR
 go_enter Tryz.func61,Tryz.ntmps61
 go_wp2
 go_loopw [11] (fun i wr=>∃ k:Nat,k ≤ s.size ∧ k ≤ t.size ∧ i = .int .i64 k ∧ Hid (cz (s.data.toList.drop k) (t.data.toList.drop k) = R) ∧ Gw w wr) (fun i _=>s.size - (intOf i).toNat)
 case atStart=>exact ⟨0,Nat.zero_le _,Nat.zero_le _,rfl,Lib.hid (by simpa using HR.out),Gw.refl _⟩
 case round=>
  obtain ⟨k,hk,hk',rfl,HK,hx⟩:=hrel
  clear HR
  by_cases hlt:k < s.size ∧ k < t.size
  ·obtain ⟨h1,h2⟩:=hlt
   have HS:Hid (cz (s.data.toList.drop k) (t.data.toList.drop k) = if (s[k]'h1).toNat < (t[k]'h2).toNat then -1 else if (t[k]'h2).toNat < (s[k]'h1).toNat then 1 else cz (s.data.toList.drop (k + 1)) (t.data.toList.drop (k + 1))):=
    Lib.hid (pF s.data.toList t.data.toList k (by omega) (by omega))
   by_cases c1:(s[k]'h1).toNat < (t[k]'h2).toNat
   ·have HE:Hid (R = -1):=Lib.hid (by rw [← HK.out,HS.out,if_pos c1])
    go_wp2
    go_quiet (fail)
    go_wp2
    go_ret
    exact ⟨eJ (iB HE.out.symm),hx.drewN _⟩
   ·by_cases c2:(t[k]'h2).toNat < (s[k]'h1).toNat
    ·have HE:Hid (R = 1):=Lib.hid (by rw [← HK.out,HS.out,if_neg c1,if_pos c2])
     go_wp2
     go_quiet (fail)
     go_wp2
     go_quiet (fail)
     go_wp2
     go_ret
     exact ⟨eJ (iB HE.out.symm),by first|exact hx.drewN _|exact (hx.drewN _).drewN _⟩
    ·have HE:Hid (cz (s.data.toList.drop (k + 1)) (t.data.toList.drop (k + 1)) = R):=Lib.hid (by rw [← HK.out,HS.out,if_neg c1,if_neg c2])
     go_wp2
     go_quiet (fail)
     go_wp2
     go_quiet (fail)
     go_wp2
     go_roundw
     case rel=>exact ⟨k + 1,by omega,by omega,by go_num,HE,hx.drewN _⟩
     case measure=>simp [intOf];omega
  ·have HS:=Lib.hid (rV s.data.toList t.data.toList k (by omega) (by omega) (by omega))
   by_cases c1:s.size < t.size
   ·have HE:Hid (R = -1):=Lib.hid (by rw [← HK.out,HS.out,if_pos (by omega)])
    go_wp2
    go_ret
    exact ⟨eJ (iB HE.out.symm),hx⟩
   ·by_cases c2:t.size < s.size
    ·have HE:Hid (R = 1):=Lib.hid (by rw [← HK.out,HS.out,if_neg (by omega),if_pos (by omega)])
     go_wp2
     go_ret
     exact ⟨eJ (iB HE.out.symm),hx⟩
    ·have HE:Hid (R = 0):=Lib.hid (by rw [← HK.out,HS.out,if_neg (by omega),if_neg (by omega)])
     go_wp2
     go_ret
     exact ⟨eJ (iB HE.out.symm),hx⟩
end Go.Proofs.YtliiahjpiagdkaaGreat
namespace Go.Proofs.YtliiahjpiagdkaaGreat
theorem CB:∀ (a b:List UInt8),cz b a = - cz a b ∧ (cz a b = 0 → a = b):=by
 intro a
 induction a with
 | nil=>intro b;cases b <;> simp [cz]
 | cons x a ih=>
  intro b
  cases b with
  | nil=>simp [cz]
  | cons y b=>
   obtain ⟨h1,h2⟩:=ih b
   simp only [cz]
   refine ⟨?_,?_⟩
   ·rcases Nat.lt_trichotomy x.toNat y.toNat with q|q|q
    ·rw [if_neg (by omega),if_pos q,if_pos q];rfl
    ·rw [if_neg (by omega),if_neg (by omega),if_neg (by omega),if_neg (by omega)];exact h1
    ·rw [if_pos q,if_neg (by omega),if_pos q]
   ·split
    ·intro h;omega
    ·split
     ·intro h;omega
     ·intro h
      rw [h2 h,UInt8.toNat_inj.1 (show x.toNat = y.toNat by omega)]
theorem M1:∀ (a b c:List UInt8),cz a a = 0 ∧ (cz a b ≤ 0 → cz b c ≤ 0 → cz a c ≤ 0):=by
 intro a
 induction a with
 | nil=>intro b c;cases b <;> cases c <;> simp [cz]
 | cons x a ih=>
  intro b c
  refine ⟨by simp [cz,(ih a a).1],?_⟩
  cases b with
  | nil=>cases c <;> simp [cz]
  | cons y b=>
   cases c with
   | nil=>simp [cz]
   | cons z c=>
    obtain ⟨_,h1⟩:=ih b c
    simp only [cz]
    intro q1 q2
    split at q1
    ·split at q2
     ·rw [if_pos (by omega)];decide
     ·split at q2
      ·omega
      ·rw [if_pos (by omega)];decide
    ·split at q1
     ·omega
     ·split at q2
      ·rw [if_pos (by omega)];decide
      ·split at q2
       ·omega
       ·rw [if_neg (by omega),if_neg (by omega)];exact h1 q1 q2
instance QM:LE ByteArray:=⟨fun s t=>bu s t ≤ 0⟩
instance QN:LT ByteArray:=⟨fun s t=>bu s t < 0⟩
instance QG (s t:ByteArray):Decidable (s < t):=inferInstanceAs (Decidable (bu s t < 0))
instance QH (s t:ByteArray):Decidable (s ≤ t):=inferInstanceAs (Decidable (bu s t ≤ 0))
theorem vP (s t:ByteArray):bu t s = - bu s t:=(CB _ _).1
theorem rZ (s:ByteArray):bu s s = 0:=(M1 _ [] []).1
theorem Lv (s t:ByteArray):bu s t = 0 ↔ s = t:=by
 refine ⟨fun h=>?_,fun h=>h ▸ rZ s⟩
 have:=(CB s.data.toList t.data.toList).2 h
 exact ByteArray.ext (Array.toList_inj.1 this)
theorem ym (s t:ByteArray):bu s t ≤ 0 ↔ s ≤ t:=Iff.rfl
theorem dz (s t:ByteArray):bu s t < 0 ↔ s < t:=Iff.rfl
theorem NG (s t:ByteArray):bu s t > 0 ↔ t < s:=by rw [← dz,vP];omega
instance QI:Std.IsLinearOrder ByteArray where
 le_refl a:=(ym _ _).1 (Int.le_of_eq (rZ a))
 le_trans a b c h1 h2:=(M1 _ _ _).2 h1 h2
 le_antisymm a b h1 h2:=(Lv a b).1 (Int.le_antisymm h1 (by have:=(ym b a).2 h2;rw [vP] at this;omega))
 le_total a b:=by rw [← ym,← ym,vP a b];omega
instance QJ:Std.LawfulOrderLT ByteArray where
 lt_iff a b:=by rw [← ym,← ym,← dz,vP a b];omega
end Go.Proofs.YtliiahjpiagdkaaGreat
namespace Go.Proofs.YtliiahjpiagdkaaGreat
def eF (l:List Rn) (n:Int):Prop:=∃ r ∈ l,gM r = true ∧ r.fr ≤ n ∧ n ≤ r.to
theorem d0 (n:Int):¬ eF [] n:=fun ⟨_,h,_⟩=>by cases h
theorem bM (x:Rn) (l:List Rn) (n:Int):eF (x :: l) n ↔ (gM x = true ∧ x.fr ≤ n ∧ n ≤ x.to) ∨ eF l n:=by
 constructor
 ·rintro ⟨r,hr,h⟩
  rcases List.mem_cons.1 hr with rfl|hr
  ·exact .inl h
  ·exact .inr ⟨r,hr,h⟩
 ·rintro (h|⟨r,hr,h⟩)
  ·exact ⟨x,List.mem_cons_self,h⟩
  ·exact ⟨r,List.mem_cons_of_mem _ hr,h⟩
theorem ir (l m:List Rn) (n:Int):eF (l ++ m) n ↔ eF l n ∨ eF m n:=by
 induction l with
 | nil=>simp [d0]
 | cons x l ih=>rw [List.cons_append,bM,bM,ih,or_assoc]
theorem uA {l m:List Rn} (h:∀ r,r ∈ l ↔ r ∈ m) (n:Int):eF l n ↔ eF m n:=
 ⟨fun ⟨r,hr,q⟩=>⟨r,(h r).1 hr,q⟩,fun ⟨r,hr,q⟩=>⟨r,(h r).2 hr,q⟩⟩
theorem qq (l:List Rn) (n:Int):eF (l.filter gM) n ↔ eF l n:=
 ⟨fun ⟨r,hr,q⟩=>⟨r,(List.mem_filter.1 hr).1,q⟩,fun ⟨r,hr,q⟩=>⟨r,List.mem_filter.2 ⟨hr,q.1⟩,q⟩⟩
theorem Hm {l:List Rn} {n:Int} (h:eF l n):1 ≤ n ∧ n ≤ 1099511627776:=by
 obtain ⟨r,_,h1,h2,h3⟩:=h
 have:=(bK r).1 h1
 omega
theorem uB:cu []:=fun i hi=>by simp at hi
theorem fY (x:Rn) (l:List Rn):cu (x :: l) ↔ gM x = true ∧ (∀ y,l.head? = some y → x.to + 2 ≤ y.fr) ∧ cu l:=by
 constructor
 ·intro h
  refine ⟨(h 0 (by simp) (by simp)).1,fun y hy=>?_,fun i hi hi'=>?_⟩
  ·cases l with
   | nil=>cases hy
   | cons z l=>
    cases hy
    have:=(h 1 (by simp) (by simp)).2 (by omega)
    simpa using this
  ·have h1:=h (i + 1) (by simpa using hi) (by simpa using hi)
   simp only [List.getElem_cons_succ,Nat.add_sub_cancel] at h1
   refine ⟨h1.1,fun h0=>?_⟩
   have h2:=h1.2 (by omega)
   obtain ⟨j,rfl⟩:∃ j,i = j + 1:=⟨i - 1,by omega⟩
   simpa using h2
 ·rintro ⟨h1,h2,h3⟩ i hi hi'
  cases i with
  | zero=>exact ⟨h1,fun q=>absurd q (Nat.lt_irrefl _)⟩
  | succ i=>
   have h4:=h3 i (by simpa using hi) (by simpa using hi)
   simp only [List.getElem_cons_succ,Nat.add_sub_cancel]
   refine ⟨h4.1,fun _=>?_⟩
   cases i with
   | zero=>
    cases l with
    | nil=>simp at hi
    | cons z l=>exact h2 z rfl
   | succ i=>
    have:=h4.2 (by omega)
    simpa using this
theorem mT {x:Rn} {l:List Rn} (h:cu (x :: l)) {n:Int} (hn:eF l n):x.to + 2 ≤ n:=by
 induction l generalizing x with
 | nil=>exact absurd hn (d0 n)
 | cons y l ih=>
  obtain ⟨h1,h2,h3⟩:=(fY _ _).1 h
  have h4:=h2 y rfl
  have h5:=(bK y).1 ((fY _ _).1 h3).1
  rcases (bM _ _ _).1 hn with q|q
  ·omega
  ·have:=ih h3 q
   omega
theorem r0:∀ {l m:List Rn},cu l → cu m → (∀ n,eF l n ↔ eF m n) → l = m:=by
 intro l
 induction l with
 | nil=>
  intro m _ hm h
  cases m with
  | nil=>rfl
  | cons y m=>
   have hy:=((fY _ _).1 hm).1
   have hy':=(bK y).1 hy
   exact absurd ((h y.fr).2 ((bM _ _ _).2 (.inl ⟨hy,by omega,by omega⟩))) (d0 _)
 | cons x l ih=>
  intro m hl hm h
  obtain ⟨hx,_,hl'⟩:=(fY _ _).1 hl
  have hx':=(bK x).1 hx
  cases m with
  | nil=>exact absurd ((h x.fr).1 ((bM _ _ _).2 (.inl ⟨hx,by omega,by omega⟩))) (d0 _)
  | cons y m=>
   obtain ⟨hy,_,hm'⟩:=(fY _ _).1 hm
   have hy':=(bK y).1 hy
   have lowl:∀ n,eF (x :: l) n → x.fr ≤ n ∧ (n ≤ x.to ∨ x.to + 2 ≤ n):=fun n hn=>by
    rcases (bM _ _ _).1 hn with q|q
    ·omega
    ·have:=mT hl q;omega
   have lowm:∀ n,eF (y :: m) n → y.fr ≤ n ∧ (n ≤ y.to ∨ y.to + 2 ≤ n):=fun n hn=>by
    rcases (bM _ _ _).1 hn with q|q
    ·omega
    ·have:=mT hm q;omega
   have inl:∀ n,x.fr ≤ n → n ≤ x.to → eF (x :: l) n:=fun n a b=>(bM _ _ _).2 (.inl ⟨hx,a,b⟩)
   have inm:∀ n,y.fr ≤ n → n ≤ y.to → eF (y :: m) n:=fun n a b=>(bM _ _ _).2 (.inl ⟨hy,a,b⟩)
   have e1:x.fr = y.fr:=by
    have a:=lowm _ ((h x.fr).1 (inl _ (by omega) (by omega)))
    have b:=lowl _ ((h y.fr).2 (inm _ (by omega) (by omega)))
    omega
   have e2:x.to = y.to:=by
    rcases Int.lt_trichotomy x.to y.to with q|q|q
    ·have:=lowl _ ((h (x.to + 1)).2 (inm _ (by omega) (by omega)));omega
    ·exact q
    ·have:=lowm _ ((h (y.to + 1)).1 (inl _ (by omega) (by omega)));omega
   have e:x = y:=by cases x;cases y;simp only at e1 e2;rw [e1,e2]
   subst e
   rw [ih hl' hm' (fun n=>?_)]
   constructor
   ·intro q
    have:=mT hl q
    rcases (bM _ _ _).1 ((h n).1 ((bM _ _ _).2 (.inr q))) with z|z
    ·omega
    ·exact z
   ·intro q
    have:=mT hm q
    rcases (bM _ _ _).1 ((h n).2 ((bM _ _ _).2 (.inr q))) with z|z
    ·omega
    ·exact z
def yn:Rn → List Rn → List Rn
 | c,[]=>[c]
 | c,r :: l=>if r.fr - c.to < 2 then yn ⟨c.fr,max c.to r.to⟩ l else c :: yn r l
def jI:List Rn → List Rn
 | []=>[]
 | x :: l=>yn x l
theorem Hn:∀ (l:List Rn) (c:Rn),∃ z t,yn c l = z :: t ∧ z.fr = c.fr:=by
 intro l
 induction l with
 | nil=>intro c;exact ⟨c,[],rfl,rfl⟩
 | cons r l ih=>
  intro c
  rw [yn]
  split
  ·obtain ⟨z,t,h1,h2⟩:=ih ⟨c.fr,max c.to r.to⟩
   exact ⟨z,t,h1,h2⟩
  ·exact ⟨c,_,rfl,rfl⟩
def tR (l:List Rn):Prop:=l.Pairwise (fun a b=>a.fr ≤ b.fr)
theorem NH:∀ (l:List Rn) (c:Rn),tR (c :: l) → (∀ r ∈ c :: l,gM r = true) → cu (yn c l) ∧ ∀ n,eF (yn c l) n ↔ eF (c :: l) n:=by
 intro l
 induction l with
 | nil=>
  intro c _ h
  exact ⟨(fY c []).2 ⟨h c (by simp),fun y hy=>by simp at hy,uB⟩,fun n=>Iff.rfl⟩
 | cons r l ih=>
  intro c hs h
  have hc:=h c (by simp)
  have hr:=h r (by simp)
  have hc':=(bK c).1 hc
  have hr':=(bK r).1 hr
  obtain ⟨s1,s2⟩:=List.pairwise_cons.1 hs
  have s3:=s1 r (by simp)
  obtain ⟨s4,s5⟩:=List.pairwise_cons.1 s2
  rw [yn]
  split
  ·rename_i g
   have hm:gM ⟨c.fr,max c.to r.to⟩ = true:=(bK _).2 (by simp only;omega)
   have:=ih ⟨c.fr,max c.to r.to⟩ (List.pairwise_cons.2 ⟨fun z hz=>s1 z (List.mem_cons_of_mem _ hz),s5⟩) (fun z hz=>by
    rcases List.mem_cons.1 hz with rfl|hz
    ·exact hm
    ·exact h z (by simp [hz]))
   refine ⟨this.1,fun n=>?_⟩
   rw [this.2 n,bM,bM,bM]
   simp only [hm,hc,hr,true_and]
   constructor
   ·rintro (q|q)
    ·by_cases z:n ≤ c.to
     ·exact .inl ⟨q.1,z⟩
     ·exact .inr (.inl (by omega))
    ·exact .inr (.inr q)
   ·rintro (q|q|q)
    ·exact .inl (by omega)
    ·exact .inl (by omega)
    ·exact .inr q
  ·rename_i g
   have:=ih r s2 (fun z hz=>h z (List.mem_cons_of_mem _ hz))
   obtain ⟨z,t,e1,e2⟩:=Hn l r
   refine ⟨(fY _ _).2 ⟨hc,fun y hy=>?_,this.1⟩,fun n=>?_⟩
   ·rw [e1] at hy
    cases hy
    omega
   ·rw [bM,this.2 n,bM c]
theorem mU {l:List Rn} (hs:tR l) (h:∀ r ∈ l,gM r = true):cu (jI l) ∧ ∀ n,eF (jI l) n ↔ eF l n:=by
 cases l with
 | nil=>exact ⟨uB,fun n=>Iff.rfl⟩
 | cons x l=>exact NH l x hs h
theorem Lw:∀ (l:List Rn) (c:Rn),(yn c l).length ≤ l.length + 1:=by
 intro l
 induction l with
 | nil=>intro c;simp [yn]
 | cons r l ih=>
  intro c
  rw [yn]
  split
  ·have:=ih ⟨c.fr,max c.to r.to⟩;simp;omega
  ·have:=ih r;simp;omega
theorem AN (l:List Rn):(jI l).length ≤ l.length:=by
 cases l with
 | nil=>exact Nat.le_refl _
 | cons x l=>exact Lw l x
def qG:List Rn → Rn → List Rn
 | [],x=>[x]
 | y :: l,x=>if x.fr ≤ y.fr then x :: y :: l else y :: qG l x
theorem yp:∀ (l:List Rn) (x r:Rn),r ∈ qG l x ↔ r = x ∨ r ∈ l:=by
 intro l
 induction l with
 | nil=>intro x r;simp [qG]
 | cons y l ih=>
  intro x r
  rw [qG]
  split
  ·simp
  ·simp only [List.mem_cons,ih]
   constructor
   ·rintro (h|h|h) <;> simp [h]
   ·rintro (h|h|h) <;> simp [h]
theorem Ho:∀ (l:List Rn) (x:Rn),tR l → tR (qG l x):=by
 intro l
 induction l with
 | nil=>intro x _;simp [qG,tR]
 | cons y l ih=>
  intro x h
  obtain ⟨h1,h2⟩:=List.pairwise_cons.1 h
  rw [qG]
  split
  ·rename_i g
   refine List.pairwise_cons.2 ⟨fun z hz=>?_,h⟩
   rcases List.mem_cons.1 hz with rfl|hz
   ·exact g
   ·have:=h1 z hz;omega
  ·refine List.pairwise_cons.2 ⟨fun z hz=>?_,ih x h2⟩
   rcases (yp l x z).1 hz with rfl|hz
   ·omega
   ·exact h1 z hz
theorem Hp:∀ (l:List Rn) (x:Rn),(qG l x).length = l.length + 1:=by
 intro l
 induction l with
 | nil=>intro x;rfl
 | cons y l ih=>intro x;rw [qG];split <;> simp [ih]
def AO (l:List Rn):List Rn:=l.foldr (fun x a=>qG a x) []
theorem r6:∀ (l:List Rn) (r:Rn),r ∈ AO l ↔ r ∈ l:=by
 intro l
 induction l with
 | nil=>intro _;rfl
 | cons x l ih=>intro r;show r ∈ qG (AO l) x ↔ _;rw [yp,ih,List.mem_cons]
theorem yq:∀ (l:List Rn),tR (AO l):=by
 intro l
 induction l with
 | nil=>exact List.Pairwise.nil
 | cons x l ih=>exact Ho _ _ ih
theorem Hq:∀ (l:List Rn),(AO l).length = l.length:=by
 intro l
 induction l with
 | nil=>rfl
 | cons x l ih=>show (qG (AO l) x).length = _;rw [Hp,ih];rfl
def ofR (l:List Rn):List Rn:=jI (AO (l.filter gM))
theorem nz (l:List Rn):cu (ofR l):=(mU (yq _) (fun _ hr=>(List.mem_filter.1 ((r6 _ _).1 hr)).2)).1
theorem gn (l:List Rn) (n:Int):eF (ofR l) n ↔ eF l n:=by
 unfold ofR
 rw [(mU (yq _) (fun _ hr=>(List.mem_filter.1 ((r6 _ _).1 hr)).2)).2 n,uA (r6 _) n,qq]
theorem vQ (l:List Rn):(ofR l).length ≤ l.length:=by
 have h1:=AN (AO (l.filter gM))
 rw [Hq] at h1
 exact Nat.le_trans h1 (List.length_filter_le _ _)
theorem AP {l m:List Rn} (h:cu m) (e:∀ n,eF m n ↔ eF l n):ofR l = m:=
 r0 (nz l) h (fun n=>(gn l n).trans (e n).symm)
theorem AQ {l:List Rn} (h:cu l):ofR l = l:=AP h (fun _=>Iff.rfl)
theorem AR {l s:List Rn} (hs:tR s) (h:∀ r,r ∈ s ↔ r ∈ l.filter gM):jI s = ofR l:=by
 have:=mU hs (fun r hr=>(List.mem_filter.1 ((h r).1 hr)).2)
 refine (AP this.1 (fun n=>?_)).symm
 rw [this.2 n,uA h n,qq]
theorem Hr {l m:List Rn} (h:∀ n,eF l n ↔ eF m n):ofR l = ofR m:=AP (nz m) (fun n=>(gn m n).trans (h n).symm)
end Go.Proofs.YtliiahjpiagdkaaGreat
namespace Go.Proofs.YtliiahjpiagdkaaGreat
open Go.RowKit Go.Shelf
abbrev BT:={s:ByteArray // s.size ≤ 1000000000000}
instance:Inhabited BT:=⟨⟨⟨#[]⟩,by decide⟩⟩
def AU (x y:BT):Int:=bu x.1 y.1
theorem yr:Sort.SWO (ltOf AU) where
 irrefl x:=by unfold ltOf AU;rw [rZ];rfl
 trans x y z h1 h2:=by
  unfold ltOf AU at *
  rw [decide_eq_true_eq,dz] at *
  grind
 ntrans x y z h1 h2:=by
  unfold ltOf AU at *
  rw [decide_eq_false_iff_not,dz] at *
  grind
def ni (l:List ByteArray):List ByteArray:=if h:∀ s ∈ l,s.size ≤ 1000000000000 then (jf AU (l.pmap Subtype.mk h)).map Subtype.val else l
theorem r8 {l:List ByteArray} (h:∀ s ∈ l,s.size ≤ 1000000000000):(ni l).Perm l ∧ (ni l).Pairwise (fun x y=>¬ y < x):=by
 unfold ni
 rw [dif_pos h]
 obtain ⟨h1,h2⟩:=gL yr (l.pmap Subtype.mk h)
 refine ⟨?_,?_⟩
 ·have:=h1.map Subtype.val
  rwa [List.map_pmap,List.pmap_eq_map,List.map_id'] at this
 ·rw [List.pairwise_map]
  refine h2.imp fun {x y} q=>?_
  unfold ltOf AU at q
  rw [decide_eq_false_iff_not,dz] at q
  exact q
abbrev BRn:={r:Rn // gM r = true}
instance:Inhabited BRn:=⟨⟨⟨1,1⟩,by decide⟩⟩
def r9 (x y:BRn):Int:=x.1.fr - y.1.fr
theorem uC:Sort.SWO (ltOf r9) where
 irrefl x:=by unfold ltOf r9;simp
 trans x y z h1 h2:=by unfold ltOf r9 at *;simp at *;omega
 ntrans x y z h1 h2:=by unfold ltOf r9 at *;simp at *;omega
def kJ (l:List Rn):List Rn:=if h:∀ r ∈ l,gM r = true then (jf r9 (l.pmap Subtype.mk h)).map Subtype.val else l
theorem yt {l:List Rn} (h:∀ r ∈ l,gM r = true):(kJ l).Perm l ∧ tR (kJ l):=by
 unfold kJ tR
 rw [dif_pos h]
 obtain ⟨h1,h2⟩:=gL uC (l.pmap Subtype.mk h)
 refine ⟨?_,?_⟩
 ·have:=h1.map Subtype.val
  rwa [List.map_pmap,List.pmap_eq_map,List.map_id'] at this
 ·rw [List.pairwise_map]
  refine h2.imp fun {x y} q=>?_
  unfold ltOf r9 at q
  simp at q
  omega
theorem nA {F : FuncId} {fn : Func} (h : Tryz.prog.funcs[F]? = some fn) (h1 : (fn.name == "runtime.NumGoroutine") = false) (h2 : fn.body.isNone = false) : MU Tryz.prog F := ⟨fn, h, h1, h2⟩
section
def so_str_ren:Go.Shelf.Ren:=⟨fun|6=>174|14=>205|15=>110|20=>224|21=>225|22=>226|23=>227|24=>228|25=>229|26=>230|27=>231|28=>160|29=>161|46=>248|47=>198|48=>199|49=>249|50=>250|57=>257|n=>n,fun|0=>0|3=>3|4=>4|5=>5|9=>9|22=>166|24=>9|25=>109|39=>153|45=>192|46=>193|50=>137|53=>199|55=>51|66=>231|70=>234|76=>254|77=>255|n=>n,fun n=>n⟩
theorem NI:SlLaysF.n6 Tryz.prog so_str_ren:={ mixed:=by kernel_rfl,f6:=⟨Tryz.f174.name,by decide,Tryz.func174.trans (congrArg some (by kernel_rfl))⟩,f14:=⟨Tryz.f205.name,by decide,Tryz.func205.trans (congrArg some (by kernel_rfl))⟩,f15:=Tryz.func110.trans (congrArg some (by kernel_rfl)),f20:=⟨Tryz.f224.name,by decide,Tryz.func224.trans (congrArg some (by kernel_rfl))⟩,f21:=⟨Tryz.f225.name,by decide,Tryz.func225.trans (congrArg some (by kernel_rfl))⟩,f22:=⟨Tryz.f226.name,by decide,Tryz.func226.trans (congrArg some (by kernel_rfl))⟩,f23:=⟨Tryz.f227.name,by decide,Tryz.func227.trans (congrArg some (by kernel_rfl))⟩,f24:=⟨Tryz.f228.name,by decide,Tryz.func228.trans (congrArg some (by kernel_rfl))⟩,f25:=⟨Tryz.f229.name,by decide,Tryz.func229.trans (congrArg some (by kernel_rfl))⟩,f26:=⟨Tryz.f230.name,by decide,Tryz.func230.trans (congrArg some (by kernel_rfl))⟩,f27:=⟨Tryz.f231.name,by decide,Tryz.func231.trans (congrArg some (by kernel_rfl))⟩,f28:=Tryz.func160.trans (congrArg some (by kernel_rfl)),f29:=Tryz.func161.trans (congrArg some (by kernel_rfl)),f46:=⟨Tryz.f248.name,by decide,Tryz.func248.trans (congrArg some (by kernel_rfl))⟩,f47:=Tryz.func198.trans (congrArg some (by kernel_rfl)),f48:=Tryz.func199.trans (congrArg some (by kernel_rfl)),f49:=⟨Tryz.f249.name,by decide,Tryz.func249.trans (congrArg some (by kernel_rfl))⟩,f50:=⟨Tryz.f250.name,by decide,Tryz.func250.trans (congrArg some (by kernel_rfl))⟩,f57:=⟨Tryz.f257.name,by decide,Tryz.func257.trans (congrArg some (by kernel_rfl))⟩,t0:=Tryz.underlying0,a0:=Tryz.isAgg0,z0:=Tryz.sizeOf0,v0:=Tryz.zeroValue0,t3:=Tryz.underlying3,a3:=Tryz.isAgg3,z3:=Tryz.sizeOf3,v3:=Tryz.zeroValue3,t4:=Tryz.underlying4,a4:=Tryz.isAgg4,z4:=Tryz.sizeOf4,v4:=Tryz.zeroValue4,t5:=Tryz.underlying5,a5:=Tryz.isAgg5,z5:=Tryz.sizeOf5,v5:=Tryz.zeroValue5,t9:=Tryz.underlying9,a9:=Tryz.isAgg9,z9:=Tryz.sizeOf9,v9:=Tryz.zeroValue9,t22:=Tryz.underlying166,a22:=Tryz.isAgg166,z22:=Tryz.sizeOf166,v22:=Tryz.zeroValue166,t25:=Tryz.underlying109,a25:=Tryz.isAgg109,z25:=Tryz.sizeOf109,v25:=Tryz.zeroValue109,t39:=Tryz.underlying153,a39:=Tryz.isAgg153,z39:=Tryz.sizeOf153,v39:=Tryz.zeroValue153,t45:=Tryz.underlying192,a45:=Tryz.isAgg192,z45:=Tryz.sizeOf192,v45:=Tryz.zeroValue192,t46:=Tryz.underlying193,a46:=Tryz.isAgg193,z46:=Tryz.sizeOf193,v46:=Tryz.zeroValue193,t50:=Tryz.underlying137,a50:=Tryz.isAgg137,z50:=Tryz.sizeOf137,v50:=Tryz.zeroValue137,t53:=Tryz.underlying199,a53:=Tryz.isAgg199,z53:=Tryz.sizeOf199,v53:=Tryz.zeroValue199,t55:=Tryz.underlying51,a55:=Tryz.isAgg51,z55:=Tryz.sizeOf51,v55:=Tryz.zeroValue51,t66:=Tryz.underlying231,a66:=Tryz.isAgg231,z66:=Tryz.sizeOf231,v66:=Tryz.zeroValue231,t70:=Tryz.underlying234,a70:=Tryz.isAgg234,z70:=Tryz.sizeOf234,v70:=Tryz.zeroValue234,t76:=Tryz.underlying254,a76:=Tryz.isAgg254,z76:=Tryz.sizeOf254,v76:=Tryz.zeroValue254,t77:=Tryz.underlying255,a77:=Tryz.isAgg255,z77:=Tryz.sizeOf255,v77:=Tryz.zeroValue255,a24:=Tryz.isAgg9,z24:=Tryz.sizeOf9 }
theorem Hs (l:List ByteArray) (h:∀ s ∈ l,s.size ≤ 1000000000000) (hl:l.length ≤ 1000000000) :
 de Tryz.prog 174 [.row 1000 0,.per (av (.func (.func 61) #[] #[]))] [(1000,.row 9 1 (l.map strP))] .any [(1000,.row 9 1 ((ni l).map strP))]:=by
 have:=D4 (e:=9) (G:=61) NI (enc:=fun x:BT=>Value.string x.1) (fun _=>rfl) yr (enters_of Tryz.func61 (by kernel_rfl) rfl)
  (fun x y w=>yk x.1 y.1 x.2 w) (nA Tryz.func174 (by kernel_rfl) (by kernel_rfl)) (l.pmap Subtype.mk h) (by rw [List.length_pmap];omega)
 have e1:(l.pmap Subtype.mk h).map (eC fun x:BT=>[Value.string x.1]) = l.map strP:=by rw [List.map_pmap];exact List.pmap_eq_map (f:=strP) h
 have e2:(jf AU (l.pmap Subtype.mk h)).map (eC fun x:BT=>[Value.string x.1]) = (ni l).map strP:=by unfold ni;rw [dif_pos h,List.map_map];rfl
 rw [e1,e2] at this
 exact this
def so_run_ren:Go.Shelf.Ren:=⟨fun|6=>232|14=>251|15=>110|20=>258|21=>259|22=>260|23=>261|24=>262|25=>263|26=>264|27=>265|28=>160|29=>161|46=>267|47=>198|48=>199|49=>268|50=>269|57=>270|n=>n,fun|0=>0|3=>3|4=>4|5=>5|9=>9|22=>93|24=>147|25=>263|39=>153|45=>192|46=>193|50=>137|53=>199|55=>51|66=>231|70=>234|76=>254|77=>255|n=>n,fun n=>n⟩
theorem NJ:SlLaysF0.n6 Tryz.prog so_run_ren:={ mixed:=by kernel_rfl,f6:=⟨Tryz.f232.name,by decide,Tryz.func232.trans (congrArg some (by kernel_rfl))⟩,f14:=⟨Tryz.f251.name,by decide,Tryz.func251.trans (congrArg some (by kernel_rfl))⟩,f15:=Tryz.func110.trans (congrArg some (by kernel_rfl)),f20:=⟨Tryz.f258.name,by decide,Tryz.func258.trans (congrArg some (by kernel_rfl))⟩,f21:=⟨Tryz.f259.name,by decide,Tryz.func259.trans (congrArg some (by kernel_rfl))⟩,f22:=⟨Tryz.f260.name,by decide,Tryz.func260.trans (congrArg some (by kernel_rfl))⟩,f23:=⟨Tryz.f261.name,by decide,Tryz.func261.trans (congrArg some (by kernel_rfl))⟩,f24:=⟨Tryz.f262.name,by decide,Tryz.func262.trans (congrArg some (by kernel_rfl))⟩,f25:=⟨Tryz.f263.name,by decide,Tryz.func263.trans (congrArg some (by kernel_rfl))⟩,f26:=⟨Tryz.f264.name,by decide,Tryz.func264.trans (congrArg some (by kernel_rfl))⟩,f27:=⟨Tryz.f265.name,by decide,Tryz.func265.trans (congrArg some (by kernel_rfl))⟩,f28:=Tryz.func160.trans (congrArg some (by kernel_rfl)),f29:=Tryz.func161.trans (congrArg some (by kernel_rfl)),f46:=⟨Tryz.f267.name,by decide,Tryz.func267.trans (congrArg some (by kernel_rfl))⟩,f47:=Tryz.func198.trans (congrArg some (by kernel_rfl)),f48:=Tryz.func199.trans (congrArg some (by kernel_rfl)),f49:=⟨Tryz.f268.name,by decide,Tryz.func268.trans (congrArg some (by kernel_rfl))⟩,f50:=⟨Tryz.f269.name,by decide,Tryz.func269.trans (congrArg some (by kernel_rfl))⟩,f57:=⟨Tryz.f270.name,by decide,Tryz.func270.trans (congrArg some (by kernel_rfl))⟩,t0:=Tryz.underlying0,a0:=Tryz.isAgg0,z0:=Tryz.sizeOf0,v0:=Tryz.zeroValue0,t3:=Tryz.underlying3,a3:=Tryz.isAgg3,z3:=Tryz.sizeOf3,v3:=Tryz.zeroValue3,t4:=Tryz.underlying4,a4:=Tryz.isAgg4,z4:=Tryz.sizeOf4,v4:=Tryz.zeroValue4,t5:=Tryz.underlying5,a5:=Tryz.isAgg5,z5:=Tryz.sizeOf5,v5:=Tryz.zeroValue5,t9:=Tryz.underlying9,a9:=Tryz.isAgg9,z9:=Tryz.sizeOf9,v9:=Tryz.zeroValue9,t22:=Tryz.underlying93,a22:=Tryz.isAgg93,z22:=Tryz.sizeOf93,v22:=Tryz.zeroValue93,t25:=Tryz.underlying263,a25:=Tryz.isAgg263,z25:=Tryz.sizeOf263,v25:=Tryz.zeroValue263,t39:=Tryz.underlying153,a39:=Tryz.isAgg153,z39:=Tryz.sizeOf153,v39:=Tryz.zeroValue153,t45:=Tryz.underlying192,a45:=Tryz.isAgg192,z45:=Tryz.sizeOf192,v45:=Tryz.zeroValue192,t46:=Tryz.underlying193,a46:=Tryz.isAgg193,z46:=Tryz.sizeOf193,v46:=Tryz.zeroValue193,t50:=Tryz.underlying137,a50:=Tryz.isAgg137,z50:=Tryz.sizeOf137,v50:=Tryz.zeroValue137,t53:=Tryz.underlying199,a53:=Tryz.isAgg199,z53:=Tryz.sizeOf199,v53:=Tryz.zeroValue199,t55:=Tryz.underlying51,a55:=Tryz.isAgg51,z55:=Tryz.sizeOf51,v55:=Tryz.zeroValue51,t66:=Tryz.underlying231,a66:=Tryz.isAgg231,z66:=Tryz.sizeOf231,v66:=Tryz.zeroValue231,t70:=Tryz.underlying234,a70:=Tryz.isAgg234,z70:=Tryz.sizeOf234,v70:=Tryz.zeroValue234,t76:=Tryz.underlying254,a76:=Tryz.isAgg254,z76:=Tryz.sizeOf254,v76:=Tryz.zeroValue254,t77:=Tryz.underlying255,a77:=Tryz.isAgg255,z77:=Tryz.sizeOf255,v77:=Tryz.zeroValue255 }
theorem Ht (x y:Rn) (hx:gM x = true) (hy:gM y = true) (w:World) :
 Calls Tryz.prog 233 #[.agg #[.int .i64 x.fr,.int .i64 x.to],.agg #[.int .i64 y.fr,.int .i64 y.to]] w fun e w'=>e = .returned (.int .i64 (x.fr - y.fr)) ∧ Gw w w':=by
 have h1:=(bK x).1 hx
 have h2:=(bK y).1 hy
 go_enter Tryz.func233,Tryz.ntmps233
 go_wp2
 go_ret
 exact ⟨rfl,((Gw.refl w).alloc _).alloc _⟩
theorem Hu (l:List Rn) (h:∀ r ∈ l,gM r = true) (hl:l.length ≤ 1000000000) :
 de Tryz.prog 232 [.row 1000 0,.per (av (.func (.func 233) #[] #[]))] [(1000,.row 147 2 (l.map rnP))] .any [(1000,.row 147 2 ((kJ l).map rnP))]:=by
 have:=pE (e:=147) (k:=2) (G:=233) NJ Tryz.isAgg147 Tryz.sizeOf147 (enc:=fun x:BRn=>encRn x.1) ⟨by decide,fun _=>rfl,fun x=>yj.one x.1⟩ uC (enters_of Tryz.func233 (by kernel_rfl) rfl)
  (fun x y w=>Ht x.1 y.1 x.2 y.2 w) (nA Tryz.func232 (by kernel_rfl) (by kernel_rfl)) (l.pmap Subtype.mk h) (by rw [List.length_pmap];omega)
 have e1:(l.pmap Subtype.mk h).map (eC fun x:BRn=>encRn x.1) = l.map rnP:=by rw [List.map_pmap];exact List.pmap_eq_map (f:=rnP) h
 have e2:(jf r9 (l.pmap Subtype.mk h)).map (eC fun x:BRn=>encRn x.1) = (kJ l).map rnP:=by unfold kJ;rw [dif_pos h,List.map_map];rfl
 rw [e1,e2] at this
 exact this
end
theorem fe {p:Nat → Prop} {z:Nat} (h:∀ i,i < z → p i) (h':p z):∀ i,i < z + 1 → p i:=fun i hi=>by
 rcases Nat.lt_or_ge i z with q|q
 ·exact h i q
 ·obtain rfl:i = z:=by omega
  exact h'
def jX (s:List Kn):Prop:=s.length ≤ 1000000000 ∧ ∀ k ∈ s,k.runs.length ≤ 1000000000
theorem jX.at {s:List Kn} (h:jX s) {i:Nat} (hi:i < s.length):s[i].runs.length ≤ 1000000000:=h.2 _ (List.getElem_mem hi)
section
theorem vR (r:Rn):Fn Tryz.prog 162 [Qs r] (cw (gM r)):=by
 refine fi Tryz.func162 Tryz.ntmps162 ?_
 (refine wH ?_;repeat' first|apply ai|refine aj fun hc=>?_)
 refine aU ?_
 refine ct (gm ?_)
 rw [gM,Bool.eq_iff_iff];simp;omega
theorem oH (r:Rn):Fn Tryz.prog 163 [Qs r] (cw (gM r)):=by
 refine fi Tryz.func163 Tryz.ntmps163 ?_
 (refine wH ?_;repeat' first|apply ai|refine aj fun hc=>?_)
 refine aU ?_
 refine ct (gm ?_)
 rw [gM,Bool.eq_iff_iff];simp;omega
theorem pG (l:List Rn) (hl:l.length ≤ 1000000000) (b:Bool) (hb:b = true ↔ cu l):Fn Tryz.prog 167 [fd l] (cw b):=by
 refine fi Tryz.func167 Tryz.ntmps167 ?_
 (refine w0 ?_;repeat' first|apply ai|refine aj fun hc=>?_)
 refine an (X:=Nat) (fun z=>z ≤ l.length ∧ ∀ i,i < z → rX l i)
  (fun z=>ba [(0,fd l),(5,fd l),(6,iC .i64 (l.length:Nat)),(7,iC .i64 (z:Nat))] []) (fun z=>l.length - z) 0 ⟨Nat.zero_le _,fun i h=>absurd h (Nat.not_lt_zero _)⟩ ?_ ?_
 ·exact ae
 ·rintro z ⟨h1,h2⟩
  by_cases hz:z < l.length
  ·have hir:=vR l[z]
   have hno:¬ rX l z → b = false:=fun h=>by rw [← Bool.not_eq_true,hb];exact fun q=>h (q z hz)
   cases hr:gM l[z] with
   | false=>
    have hb0:=hno (fun h=>by have:=(h hz).1;rw [hr] at this;cases this)
    subst hb0
    clear hb hno h2
    rw [hr] at hir
    (refine az hir ?_;repeat' first|apply ai|refine aj fun hc=>?_)
    refine aU ?_
    exact af rfl rfl
   | true=>
    rw [hr] at hir
    have hrz:=(bK _).1 hr
    by_cases h0:0 < z
    ·obtain ⟨q,rfl⟩:∃ q,z = q + 1:=⟨z - 1,by omega⟩
     have hqE:((q + 1:Nat):Int) - 1 = (q:Nat):=by omega
     have hrq:=(bK _).1 ((h2 q (by omega)) (by omega)).1
     by_cases hlt:l[q].to + 2 ≤ l[q + 1].fr
     ·have hok:rX l (q + 1):=fun _=>⟨hr,fun _=>hlt⟩
      clear hb hno
      (refine bU hqE hir ?_;repeat' first|apply ai|refine aj fun hc=>?_)
      refine ⟨q + 1 + 1,⟨by omega,fe h2 hok⟩,by omega,?_⟩
      exact ae
     ·have hb0:=hno (fun h=>hlt ((h hz).2 h0))
      subst hb0
      clear hb hno h2
      (refine bU hqE hir ?_;repeat' first|apply ai|refine aj fun hc=>?_)
      refine aU ?_
      exact af rfl rfl
    ·have hok:rX l z:=fun _=>⟨hr,fun h=>absurd h h0⟩
     clear hb hno
     (refine az hir ?_;repeat' first|apply ai|refine aj fun hc=>?_)
     refine ⟨z + 1,⟨by omega,fe h2 hok⟩,by omega,?_⟩
     exact ae
  ·have hb1:b = true:=hb.2 (fun i hi=>h2 i (by omega))
   subst hb1
   clear hb h2
   (refine w0 ?_;repeat' first|apply ai|refine aj fun hc=>?_)
   refine aU ?_
   exact af rfl rfl
theorem AV (l:List Rn) (hl:l.length ≤ 1000000000) (b:Bool) (hb:b = true ↔ cu l):Fn Tryz.prog 144 [fd l] (cw b):=by
 refine fi Tryz.func144 Tryz.ntmps144 ?_
 (refine w0 ?_;repeat' first|apply ai|refine aj fun hc=>?_)
 refine an (X:=Nat) (fun z=>z ≤ l.length ∧ ∀ i,i < z → rX l i)
  (fun z=>ba [(0,fd l),(3,iC .i64 (z:Nat))] []) (fun z=>l.length - z) 0 ⟨Nat.zero_le _,fun i h=>absurd h (Nat.not_lt_zero _)⟩ ?_ ?_
 ·exact ae
 ·rintro z ⟨h1,h2⟩
  by_cases hz:z < l.length
  ·have hir:=oH l[z]
   have hno:¬ rX l z → b = false:=fun h=>by rw [← Bool.not_eq_true,hb];exact fun q=>h (q z hz)
   cases hr:gM l[z] with
   | false=>
    have hb0:=hno (fun h=>by have:=(h hz).1;rw [hr] at this;cases this)
    subst hb0
    clear hb hno h2
    rw [hr] at hir
    (refine az hir ?_;repeat' first|apply ai|refine aj fun hc=>?_)
    refine aU ?_
    exact af rfl rfl
   | true=>
    rw [hr] at hir
    have hrz:=(bK _).1 hr
    by_cases h0:0 < z
    ·obtain ⟨q,rfl⟩:∃ q,z = q + 1:=⟨z - 1,by omega⟩
     have hqE:((q + 1:Nat):Int) - 1 = (q:Nat):=by omega
     have hrq:=(bK _).1 ((h2 q (by omega)) (by omega)).1
     by_cases hlt:l[q].to + 2 ≤ l[q + 1].fr
     ·have hok:rX l (q + 1):=fun _=>⟨hr,fun _=>hlt⟩
      clear hb hno
      (refine bU hqE hir ?_;repeat' first|apply ai|refine aj fun hc=>?_)
      refine ⟨q + 1 + 1,⟨by omega,fe h2 hok⟩,by omega,?_⟩
      exact ae
     ·have hb0:=hno (fun h=>hlt ((h hz).2 h0))
      subst hb0
      clear hb hno h2
      (refine bU hqE hir ?_;repeat' first|apply ai|refine aj fun hc=>?_)
      refine aU ?_
      exact af rfl rfl
    ·have hok:rX l z:=fun _=>⟨hr,fun h=>absurd h h0⟩
     clear hb hno
     (refine az hir ?_;repeat' first|apply ai|refine aj fun hc=>?_)
     refine ⟨z + 1,⟨by omega,fe h2 hok⟩,by omega,?_⟩
     exact ae
  ·have hb1:b = true:=hb.2 (fun i hi=>h2 i (by omega))
   subst hb1
   clear hb h2
   (refine w0 ?_;repeat' first|apply ai|refine aj fun hc=>?_)
   refine aU ?_
   exact af rfl rfl
theorem nD (n:Int):Fn Tryz.prog 166 [iC .i64 n] (cw (decide (1 ≤ n ∧ n ≤ 16))):=by
 refine fi Tryz.func166 Tryz.ntmps166 ?_
 (refine wH ?_;repeat' first|apply ai|refine aj fun hc=>?_)
 refine aU ?_
 refine ct (gm ?_)
 rw [Bool.eq_iff_iff];simp
theorem Hv (l:List Kn) (hl:jX l) (b:Bool) (hb:b = true ↔ cg l):Fn Tryz.prog 121 [eM l] (cw b):=by
 have hl0:=hl.1
 refine fi Tryz.func121 Tryz.ntmps121 ?_
 (refine w0 ?_;repeat' first|apply ai|refine aj fun hc=>?_)
 refine an (X:=Nat × Int) (fun z=>z.1 ≤ l.length ∧ (∀ i,i < z.1 → AM l i) ∧ (z.1 = 0 → z.2 = 0) ∧ (∀ (h:z.1 - 1 < l.length),0 < z.1 → z.2 = l[z.1 - 1].rep))
  (fun z=>ba [(3,iC .i64 z.2),(6,eM l),(7,iC .i64 (l.length:Nat)),(8,iC .i64 (z.1:Nat))] []) (fun z=>l.length - z.1) (0,0) ⟨Nat.zero_le _,fun i h=>absurd h (Nat.not_lt_zero _),fun _=>rfl,fun _ h=>absurd h (by simp)⟩ ?_ ?_
 ·exact ae
 ·rintro ⟨z,was⟩ ⟨h1,h2,h3,h4⟩
  simp only at h1 h2 h3 h4 ⊢
  by_cases hz:z < l.length
  ·have c1:=nD l[z].rep
   have c2:=pG l[z].runs (hl.at hz) (decide (cu l[z].runs)) (by simp)
   have h4':=h4 (by omega)
   have hE:l[z].runs ≠ [] ↔ ¬ l[z].runs.length = 0:=by simp
   by_cases hok:AM l z
   ·obtain ⟨a1,a2,a3,a4,a5⟩:=hok hz
    rw [decide_eq_true ⟨a1,a2⟩] at c1
    rw [decide_eq_true a4] at c2
    have a6:was < l[z].rep:=by
     rcases Nat.eq_zero_or_pos z with q|q
     ·have:=h3 q;omega
     ·rw [h4' q];exact a5 q
    rw [hE] at a3
    clear hb h3 h4 h4' hE a4 a5
    (refine aL c1 c2 ?_;repeat' first|apply ai|refine aj fun hc=>?_)
    refine ⟨(z + 1,l[z].rep),⟨by simp only;omega,fe h2 hok,fun h=>by simp at h,fun h _=>rfl⟩,by simp only;omega,?_⟩
    exact ae
   ·have hb0:b = false:=by rw [← Bool.not_eq_true,hb];exact fun q=>hok (q z hz)
    subst hb0
    have hno:¬ (1 ≤ l[z].rep ∧ l[z].rep ≤ 16 ∧ ¬ l[z].runs.length = 0 ∧ cu l[z].runs ∧ was < l[z].rep):=fun ⟨a1,a2,a3,a4,a5⟩=>hok (fun _=>⟨a1,a2,hE.2 a3,a4,fun q=>by rw [← h4' q];exact a5⟩)
    clear hb h2 h3 h4 h4' hE hok
    by_cases q1:1 ≤ l[z].rep ∧ l[z].rep ≤ 16
    ·rw [decide_eq_true q1] at c1
     by_cases q2:was < l[z].rep
     ·by_cases q3:l[z].runs.length = 0
      ·clear hno
       (refine aL c1 c2 ?_;repeat' first|apply ai|refine aj fun hc=>?_)
       refine aU ?_
       exact af rfl rfl
      ·by_cases q4:cu l[z].runs
       ·exact absurd ⟨q1.1,q1.2,q3,q4,q2⟩ hno
       ·rw [decide_eq_false q4] at c2
        clear hno q4
        (refine aL c1 c2 ?_;repeat' first|apply ai|refine aj fun hc=>?_)
        refine aU ?_
        exact af rfl rfl
     ·clear hno
      (refine aL c1 c2 ?_;repeat' first|apply ai|refine aj fun hc=>?_)
      refine aU ?_
      exact af rfl rfl
    ·rw [decide_eq_false q1] at c1
     clear hno q1
     (refine aL c1 c2 ?_;repeat' first|apply ai|refine aj fun hc=>?_)
     refine aU ?_
     exact af rfl rfl
  ·have hb1:b = true:=hb.2 (fun i hi=>h2 i (by omega))
   subst hb1
   clear hb h2 h3 h4
   (refine w0 ?_;repeat' first|apply ai|refine aj fun hc=>?_)
   refine aU ?_
   exact af rfl rfl
theorem Ed (l:List Kn) (hl:jX l) (b:Bool) (hb:b = true ↔ cg l):Fn Tryz.prog 97 [eM l] (cw b):=by
 have hl0:=hl.1
 refine fi Tryz.func97 Tryz.ntmps97 ?_
 (refine w0 ?_;repeat' first|apply ai|refine aj fun hc=>?_)
 refine an (X:=Nat) (fun z=>z ≤ l.length ∧ ∀ i,i < z → AM l i)
  (fun z=>ba [(0,eM l),(3,iC .i64 (z:Nat))] []) (fun z=>l.length - z) 0 ⟨Nat.zero_le _,fun i h=>absurd h (Nat.not_lt_zero _)⟩ ?_ ?_
 ·exact ae
 ·rintro z ⟨h1,h2⟩
  by_cases hz:z < l.length
  ·have c2:=AV l[z].runs (hl.at hz) (decide (cu l[z].runs)) (by simp)
   have hE:l[z].runs ≠ [] ↔ ¬ l[z].runs.length = 0:=by simp
   by_cases hok:AM l z
   ·obtain ⟨a1,a2,a3,a4,a5⟩:=hok hz
    rw [decide_eq_true a4] at c2
    rw [hE] at a3
    by_cases h0:0 < z
    ·obtain ⟨q,rfl⟩:∃ q,z = q + 1:=⟨z - 1,by omega⟩
     have hqE:((q + 1:Nat):Int) - 1 = (q:Nat):=by omega
     have a6:l[q].rep < l[q + 1].rep:=a5 h0
     clear hb hE a4 a5
     (refine bU hqE c2 ?_;repeat' first|apply ai|refine aj fun hc=>?_)
     refine ⟨q + 1 + 1,⟨by omega,fe h2 hok⟩,by omega,?_⟩
     exact ae
    ·clear hb hE a4 a5
     (refine az c2 ?_;repeat' first|apply ai|refine aj fun hc=>?_)
     refine ⟨z + 1,⟨by omega,fe h2 hok⟩,by omega,?_⟩
     exact ae
   ·have hb0:b = false:=by rw [← Bool.not_eq_true,hb];exact fun q=>hok (q z hz)
    subst hb0
    by_cases h0:0 < z
    ·obtain ⟨q,rfl⟩:∃ q,z = q + 1:=⟨z - 1,by omega⟩
     have hqE:((q + 1:Nat):Int) - 1 = (q:Nat):=by omega
     have hno:¬ (1 ≤ l[q + 1].rep ∧ l[q + 1].rep ≤ 16 ∧ ¬ l[q + 1].runs.length = 0 ∧ cu l[q + 1].runs ∧ l[q].rep < l[q + 1].rep):=fun ⟨a1,a2,a3,a4,a5⟩=>hok (fun _=>⟨a1,a2,hE.2 a3,a4,fun _=>a5⟩)
     clear hb h2 hE hok
     by_cases q4:cu l[q + 1].runs
     ·rw [decide_eq_true q4] at c2
      have hno':¬ (1 ≤ l[q + 1].rep ∧ l[q + 1].rep ≤ 16 ∧ ¬ l[q + 1].runs.length = 0 ∧ l[q].rep < l[q + 1].rep):=fun ⟨a1,a2,a3,a5⟩=>hno ⟨a1,a2,a3,q4,a5⟩
      clear hno q4
      (refine bU hqE c2 ?_;repeat' first|apply ai|refine aj fun hc=>?_)
      all_goals refine aU ?_
      all_goals exact af rfl rfl
     ·rw [decide_eq_false q4] at c2
      clear hno q4
      (refine bU hqE c2 ?_;repeat' first|apply ai|refine aj fun hc=>?_)
      all_goals refine aU ?_
      all_goals exact af rfl rfl
    ·have hno:¬ (1 ≤ l[z].rep ∧ l[z].rep ≤ 16 ∧ ¬ l[z].runs.length = 0 ∧ cu l[z].runs):=fun ⟨a1,a2,a3,a4⟩=>hok (fun _=>⟨a1,a2,hE.2 a3,a4,fun h=>absurd h h0⟩)
     clear hb h2 hE hok
     by_cases q4:cu l[z].runs
     ·rw [decide_eq_true q4] at c2
      have hno':¬ (1 ≤ l[z].rep ∧ l[z].rep ≤ 16 ∧ ¬ l[z].runs.length = 0):=fun ⟨a1,a2,a3⟩=>hno ⟨a1,a2,a3,q4⟩
      clear hno q4
      (refine az c2 ?_;repeat' first|apply ai|refine aj fun hc=>?_)
      all_goals refine aU ?_
      all_goals exact af rfl rfl
     ·rw [decide_eq_false q4] at c2
      clear hno q4
      (refine az c2 ?_;repeat' first|apply ai|refine aj fun hc=>?_)
      all_goals refine aU ?_
      all_goals exact af rfl rfl
  ·have hb1:b = true:=hb.2 (fun i hi=>h2 i (by omega))
   subst hb1
   clear hb h2
   (refine w0 ?_;repeat' first|apply ai|refine aj fun hc=>?_)
   refine aU ?_
   exact af rfl rfl
def P7 (x y:Rn):Bool:=decide (x.fr = y.fr) && (decide (x.to = y.to) && true)
theorem qX (x y:Rn):P7 x y = true ↔ x = y:=by
 obtain ⟨a,b⟩:=x
 obtain ⟨a',b'⟩:=y
 simp [P7]
theorem M2 (x y:Rn):xN Tryz.prog 10000 147 (encRn x) (encRn y) = some (P7 x y):=by kernel_rfl
theorem Qv:Tryz.prog.eqGuardType Tryz.prog.depth 147 = false:=by kernel_rfl
theorem Ee (l m:List Rn) (hl:l.length ≤ 1000000000):Fn Tryz.prog 145 [fd l,fd m] (cw (decide (l = m))):=by
 refine fi Tryz.func145 Tryz.ntmps145 ?_
 (refine wH ?_;repeat' first|apply ai|refine aj fun hc=>?_)
 ·refine aU ?_
  exact af rfl (by symm;rw [decide_eq_false_iff_not];intro h;subst h;omega)
 have hlm:l.length = m.length:=by omega
 refine an (fun k=>k ≤ l.length ∧ l.take k = m.take k) (fun k=>ba [(0,fd l),(1,fd m),(4,bC false),(5,iC .i64 (k:Nat))] []) (fun k=>l.length - k) 0 ⟨Nat.zero_le _,rfl⟩ ?_ ?_
 ·exact ae
 ·rintro k ⟨hk,hpre⟩
  by_cases hlt:k < l.length
  ·have hltm:k < m.length:=by omega
   (refine wH ?_;repeat' first|apply ai|refine aj fun hc=>?_|((first|apply aO rfl|apply aP rfl|apply aQ rfl|apply aR rfl);(focus ((try (apply b8;(focus rfl);apply ah rfl rfl rfl rfl rfl));first|(exact dR (us:=encRn l[k]) (vs:=encRn m[k]) ⟨rfl,rfl,rfl⟩ rfl rfl rfl (.inr ⟨rfl,rfl⟩) Qv rfl (M2 l[k] m[k]))));refine wH ?_))
   ·refine aU ?_
    exact af rfl (by symm;rw [decide_eq_false_iff_not];intro h;subst h;simp [(qX l[k] l[k]).2 rfl] at *)
   ·refine ⟨k + 1,⟨by omega,?_⟩,by omega,?_⟩
    ·rw [aJ l k hlt,aJ m k hltm,hpre,(qX l[k] m[k]).1 (by simpa using hc)]
    ·exact ae
  ·(refine wH ?_;repeat' first|apply ai|refine aj fun hc=>?_)
   refine aU ?_
   exact af rfl (by symm;rw [decide_eq_true_eq,← List.take_of_length_le (show l.length ≤ k by omega),hpre,List.take_of_length_le (by omega)])
theorem oJ (l m:List Kn) (hl:jX l):Fn Tryz.prog 98 [eM l,eM m] (cw (decide (l = m))):=by
 have hl0:=hl.1
 refine fi Tryz.func98 Tryz.ntmps98 ?_
 (refine w0 ?_;repeat' first|apply ai|refine aj fun hc=>?_)
 ·refine aU ?_
  exact af rfl (by symm;rw [decide_eq_false_iff_not];intro h;subst h;omega)
 have hlm:l.length = m.length:=by omega
 refine an (fun k=>k ≤ l.length ∧ l.take k = m.take k) (fun k=>ba [(0,eM l),(1,eM m),(4,bC false),(5,iC .i64 (k:Nat))] []) (fun k=>l.length - k) 0 ⟨Nat.zero_le _,rfl⟩ ?_ ?_
 ·exact ae
 ·rintro k ⟨hk,hpre⟩
  by_cases hlt:k < l.length
  ·have hltm:k < m.length:=by omega
   have c1:=Ee l[k].runs m[k].runs (hl.at hlt)
   have hE:l[k] = m[k] ↔ l[k].rep = m[k].rep ∧ l[k].runs = m[k].runs:=by
    constructor
    ·intro h;rw [h];exact ⟨rfl,rfl⟩
    ·rintro ⟨h1,h2⟩
     cases hx:l[k];cases hy:m[k]
     rw [hx,hy] at h1 h2
     simp only at h1 h2
     rw [h1,h2]
   by_cases h1:l[k].rep = m[k].rep
   ·by_cases h2:l[k].runs = m[k].runs
    ·rw [decide_eq_true h2] at c1
     clear hE
     have hlm1:l[k] = m[k]:=by
      cases hx:l[k];cases hy:m[k]
      rw [hx,hy] at h1 h2
      simp only at h1 h2
      rw [h1,h2]
     clear h2
     (refine az c1 ?_;repeat' first|apply ai|refine aj fun hc=>?_)
     refine ⟨k + 1,⟨by omega,?_⟩,by omega,?_⟩
     ·rw [aJ l k hlt,aJ m k hltm,hpre,hlm1]
     ·exact ae
    ·rw [decide_eq_false h2] at c1
     have hd:¬ l = m:=fun h=>h2 (by subst h;rfl)
     rw [decide_eq_false hd]
     clear hE h2 hd
     (refine az c1 ?_;repeat' first|apply ai|refine aj fun hc=>?_)
     refine aU ?_
     exact af rfl rfl
   ·have hd:¬ l = m:=fun h=>h1 (by subst h;rfl)
    rw [decide_eq_false hd]
    clear hE hd
    (refine az c1 ?_;repeat' first|apply ai|refine aj fun hc=>?_)
    refine aU ?_
    exact af rfl rfl
  ·rw [List.take_of_length_le (by omega),List.take_of_length_le (by omega)] at hpre
   rw [decide_eq_true hpre]
   clear hpre
   (refine w0 ?_;repeat' first|apply ai|refine aj fun hc=>?_)
   refine aU ?_
   exact af rfl rfl
def gp (l:List Kn) (most:Int):Bool:=decide ((l.length:Int) > most) || l.any fun k=>decide ((k.runs.length:Int) > most)
theorem Hw (l:List Kn) (most:Int) (hl:most ≤ 1000000000000):Fn Tryz.prog 22 [eM l,iC .i64 most] (cw (gp l most)):=by
 refine fi Tryz.func22 Tryz.ntmps22 ?_
 (refine w0 ?_;repeat' first|apply ai|refine aj fun hc=>?_)
 ·refine aU ?_
  exact af rfl (by unfold gp;rw [decide_eq_true hc];rfl)
 refine an (fun k=>k ≤ l.length ∧ (l.take k).any (fun k=>decide ((k.runs.length:Int) > most)) = false) (fun k=>ba [(0,eM l),(1,iC .i64 most),(4,bC false),(5,iC .i64 (k:Nat))] []) (fun k=>l.length - k) 0 ⟨Nat.zero_le _,by simp⟩ ?_ ?_
 ·exact ae
 ·rintro k ⟨hk,hpre⟩
  by_cases hlt:k < l.length
  ·have hsn:(l.take (k + 1)).any (fun k=>decide ((k.runs.length:Int) > most)) = ((l.take k).any (fun k=>decide ((k.runs.length:Int) > most)) || decide ((l[k].runs.length:Int) > most)):=by rw [aJ l k hlt,List.any_append];simp
   by_cases hq:(l[k].runs.length:Int) > most
   ·have hd:gp l most = true:=by unfold gp;rw [Bool.or_eq_true,List.any_eq_true];exact .inr ⟨l[k],List.getElem_mem hlt,decide_eq_true hq⟩
    rw [hd]
    clear hd hsn hpre
    (refine w0 ?_;repeat' first|apply ai|refine aj fun hc=>?_)
    refine aU ?_
    exact af rfl rfl
   ·rw [hpre,decide_eq_false hq] at hsn
    clear hpre
    (refine w0 ?_;repeat' first|apply ai|refine aj fun hc=>?_)
    refine ⟨k + 1,⟨by omega,hsn⟩,by omega,?_⟩
    exact ae
  ·have e:l.take k = l:=List.take_of_length_le (by omega)
   rw [e] at hpre
   have hd:gp l most = false:=by unfold gp;rw [hpre,Bool.or_false,decide_eq_false_iff_not];assumption
   rw [hd]
   clear hd hpre e
   (refine w0 ?_;repeat' first|apply ai|refine aj fun hc=>?_)
   refine aU ?_
   exact af rfl rfl
theorem AX {l:List Kn} {most:Int} (h:gp l most = false):(l.length:Int) ≤ most ∧ ∀ k ∈ l,(k.runs.length:Int) ≤ most:=by
 unfold gp at h
 rw [Bool.or_eq_false_iff,decide_eq_false_iff_not] at h
 refine ⟨by omega,fun k hk=>?_⟩
 have:=List.any_eq_false.1 h.2 k hk
 simp at this;exact this
end
end Go.Proofs.YtliiahjpiagdkaaGreat
