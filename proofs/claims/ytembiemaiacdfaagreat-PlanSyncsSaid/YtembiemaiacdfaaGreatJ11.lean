/- Texts joined: IcR Law19P IcLR FcR Law10P KnT SoC. -/
import Derived.Test.YtembiemaiacdfaaGreatJ10
import Derived.Test.YtembiemaiacdfaaGreatJ09
import Derived.Test.YtembiemaiacdfaaGreatJ05
import Derived.Test.YtembiemaiacdfaaGreatJ07
import Derived.Test.YtembiemaiacdfaaGreatJ06
import Derived.Deep.QuietTactic
import Derived.BigQuiet
set_option maxRecDepth 10000
set_option maxHeartbeats 8000000
namespace Go.Proofs.YtembiemaiacdfaaGreat
open Go.RowKit
section
end
section
end
instance (l:List Rg):Decidable (cV l):=by unfold cV rI;infer_instance
section
end
end Go.Proofs.YtembiemaiacdfaaGreat
namespace Go.Proofs.YtembiemaiacdfaaGreat
open Go.RowKit
section
end
structure Rn where
 fr:Int
 to:Int
deriving DecidableEq
structure Kn where
 rep:Int
 runs:List Rn
deriving DecidableEq
structure Pc where
 rg:Rg
 set:List Kn
deriving DecidableEq
def encRn (r:Rn):List Value:=[.int .i64 r.fr,.int .i64 r.to]
theorem v6:Dn 2 encRn:=⟨by decide,fun _=>rfl,fun x u hu=>by
 simp only [encRn,List.mem_cons,List.not_mem_nil,or_false] at hu
 rcases hu with rfl|rfl <;> rfl⟩
abbrev rnP (r:Rn):List PV:=[aq (.int .i64 r.fr),aq (.int .i64 r.to)]
abbrev MM (r:Rn):Cnt:=.per (bP (rnP r))
abbrev jn (l:List Rn):PV:=ct 2 (l.map rnP)
abbrev eC (l:List Rn):Cnt:=.bor 2 (l.map rnP)
abbrev Ap (k:Kn):List PV:=[aq (.int .i64 k.rep),jn k.runs]
abbrev MN (k:Kn):Cnt:=.per (bP (Ap k))
abbrev B4 (l:List Kn):PV:=ct 2 (l.map Ap)
abbrev eh (l:List Kn):Cnt:=.bor 2 (l.map Ap)
abbrev pcP (p:Pc):List PV:=[aq (.string p.rg.lo),aq (.string p.rg.hi),aq (.bool p.rg.op),B4 p.set]
abbrev MO (p:Pc):Cnt:=.per (bP (pcP p))
abbrev ff (l:List Pc):PV:=ct 4 (l.map pcP)
abbrev bS (l:List Pc):Cnt:=.bor 4 (l.map pcP)
def ga (r:Rn):Bool:=decide (1 ≤ r.fr ∧ r.fr ≤ r.to ∧ r.to ≤ 1099511627776)
theorem bu (r:Rn):ga r = true ↔ 1 ≤ r.fr ∧ r.fr ≤ r.to ∧ r.to ≤ 1099511627776:=by unfold ga;exact decide_eq_true_iff
def qb (l:List Rn) (i:Nat):Prop:=∀ h:i < l.length,ga l[i] = true ∧ ∀ h0:0 < i,l[i - 1].to + 2 ≤ l[i].fr
def cK (l:List Rn):Prop:=∀ i,i < l.length → qb l i
def yL (l:List Kn) (i:Nat):Prop:=∀ h:i < l.length,1 ≤ l[i].rep ∧ l[i].rep ≤ 16 ∧ l[i].runs ≠ [] ∧ cK l[i].runs ∧ ∀ h0:0 < i,l[i - 1].rep < l[i].rep
def bK (l:List Kn):Prop:=∀ i,i < l.length → yL l i
def qc (l:List Pc) (i:Nat):Prop:=∀ h:i < l.length,eJ l[i].rg = true ∧ l[i].set ≠ [] ∧ bK l[i].set ∧ ∀ h0:0 < i,l[i - 1].rg.op = false ∧ bG l[i - 1].rg.hi l[i].rg.lo ≤ 0 ∧ ¬ (l[i - 1].rg.hi = l[i].rg.lo ∧ l[i - 1].set = l[i].set)
def aO (l:List Pc):Prop:=∀ i,i < l.length → qc l i
instance (l:List Rn) (i:Nat):Decidable (qb l i):=by unfold qb;infer_instance
instance (l:List Rn):Decidable (cK l):=by unfold cK;infer_instance
instance (l:List Kn) (i:Nat):Decidable (yL l i):=by unfold yL;infer_instance
instance (l:List Kn):Decidable (bK l):=by unfold bK;infer_instance
instance (l:List Pc) (i:Nat):Decidable (qc l i):=by unfold qc;infer_instance
instance (l:List Pc):Decidable (aO l):=by unfold aO;infer_instance
theorem sh {l:List Kn} (h:bK l) {i:Nat} (hi:i < l.length):1 ≤ l[i].rep ∧ l[i].rep ≤ 16 ∧ l[i].runs ≠ [] ∧ cK l[i].runs:=
 let ⟨a,b,c,d,_⟩:=h i hi hi;⟨a,b,c,d⟩
end Go.Proofs.YtembiemaiacdfaaGreat
namespace Go.Proofs.YtembiemaiacdfaaGreat
open Go.RowKit Go.Shelf
theorem v7 (s t:ByteArray) (hs:s.size ≤ 1000000000000) (w:World) :
   Calls Tryz.prog 120 #[.string s,.string t] w fun e w'=>e = .returned (.int .i64 (bG s t)) ∧ Gw w w':=by
 have HR:Hid (cp s.data.toList t.data.toList = bG s t):=Lib.hid rfl
 have es:s.data.toList.length = s.size:=by simp
 have et:t.data.toList.length = t.size:=by simp
 generalize hR:bG s t = R at *
 clear hR
 go_enter Tryz.func120,Tryz.ntmps120
 go_wp2
 go_loopw [11] (fun i wr=>∃ k:Nat,k ≤ s.size ∧ k ≤ t.size ∧ i = .int .i64 k ∧ Hid (cp (s.data.toList.drop k) (t.data.toList.drop k) = R) ∧ Gw w wr) (fun i _=>s.size - (intOf i).toNat)
 case atStart=>exact ⟨0,Nat.zero_le _,Nat.zero_le _,rfl,Lib.hid (by simpa using HR.out),Gw.refl _⟩
 case round=>
   obtain ⟨k,hk,hk',rfl,HK,hx⟩:=hrel
   clear HR
   by_cases hlt:k < s.size ∧ k < t.size
   · obtain ⟨h1,h2⟩:=hlt
     have HS:Hid (cp (s.data.toList.drop k) (t.data.toList.drop k) = if (s[k]'h1).toNat < (t[k]'h2).toNat then -1 else if (t[k]'h2).toNat < (s[k]'h1).toNat then 1 else cp (s.data.toList.drop (k + 1)) (t.data.toList.drop (k + 1))):=
       Lib.hid (n8 s.data.toList t.data.toList k (by omega) (by omega))
     by_cases c1:(s[k]'h1).toNat < (t[k]'h2).toNat
     · have HE:Hid (R = -1):=Lib.hid (by rw [← HK.out,HS.out,if_pos c1])
       go_wp2
       go_quiet (fail)
       go_wp2
       go_ret
       exact ⟨mb (mc HE.out.symm),hx.drewN _⟩
     · by_cases c2:(t[k]'h2).toNat < (s[k]'h1).toNat
       · have HE:Hid (R = 1):=Lib.hid (by rw [← HK.out,HS.out,if_neg c1,if_pos c2])
         go_wp2
         go_quiet (fail)
         go_wp2
         go_quiet (fail)
         go_wp2
         go_ret
         exact ⟨mb (mc HE.out.symm),by first|exact hx.drewN _|exact (hx.drewN _).drewN _⟩
       · have HE:Hid (cp (s.data.toList.drop (k + 1)) (t.data.toList.drop (k + 1)) = R):=Lib.hid (by rw [← HK.out,HS.out,if_neg c1,if_neg c2])
         go_wp2
         go_quiet (fail)
         go_wp2
         go_quiet (fail)
         go_wp2
         go_roundw
         case rel=>exact ⟨k + 1,by omega,by omega,by go_num,HE,hx.drewN _⟩
         case measure=>simp [intOf];omega
   · have HS:=Lib.hid (pY s.data.toList t.data.toList k (by omega) (by omega) (by omega))
     by_cases c1:s.size < t.size
     · have HE:Hid (R = -1):=Lib.hid (by rw [← HK.out,HS.out,if_pos (by omega)])
       go_wp2
       go_ret
       exact ⟨mb (mc HE.out.symm),hx⟩
     · by_cases c2:t.size < s.size
       · have HE:Hid (R = 1):=Lib.hid (by rw [← HK.out,HS.out,if_neg (by omega),if_pos (by omega)])
         go_wp2
         go_ret
         exact ⟨mb (mc HE.out.symm),hx⟩
       · have HE:Hid (R = 0):=Lib.hid (by rw [← HK.out,HS.out,if_neg (by omega),if_neg (by omega)])
         go_wp2
         go_ret
         exact ⟨mb (mc HE.out.symm),hx⟩
end Go.Proofs.YtembiemaiacdfaaGreat
