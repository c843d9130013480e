/- Texts joined: IcR Law19P IcLR FcR Law10P KnT SoC. -/
import Derived.Test.YtembiemaiacdfaaGreatJ11
import Derived.Test.YtembiemaiacdfaaGreatJ09
import Derived.Test.YtembiemaiacdfaaGreatJ05
import Derived.Test.YtembiemaiacdfaaGreatJ07
import Derived.Test.YtembiemaiacdfaaGreatJ06
import Derived.Test.YtembiemaiacdfaaGreatJ10
import Derived.Deep.QuietTactic
import Derived.BigQuiet
set_option maxRecDepth 10000
set_option maxHeartbeats 8000000
namespace Go.Proofs.YtembiemaiacdfaaGreat
open Go.RowKit
section
end
section
end
instance (l:List Rg):Decidable (rgsOk l):=by unfold rgsOk rgOk;infer_instance
section
end
end Go.Proofs.YtembiemaiacdfaaGreat
namespace Go.Proofs.YtembiemaiacdfaaGreat
open Go.RowKit
section
end
structure Rn where
 fr:Int
 to:Int
deriving DecidableEq
structure Kn where
 rep:Int
 runs:List Rn
deriving DecidableEq
structure Pc where
 rg:Rg
 set:List Kn
deriving DecidableEq
def encRn (r:Rn):List Value:=[.int .i64 r.fr,.int .i64 r.to]
theorem encRn_ok:Enc 2 encRn:=⟨by decide,fun _=>rfl,fun x u hu=>by
 simp only [encRn,List.mem_cons,List.not_mem_nil,or_false] at hu
 rcases hu with rfl|rfl <;> rfl⟩
abbrev rnP (r:Rn):List PV:=[rawP (.int .i64 r.fr),rawP (.int .i64 r.to)]
abbrev rnC (r:Rn):Cnt:=.per (aggP (rnP r))
abbrev rnsP (l:List Rn):PV:=lstP 2 (l.map rnP)
abbrev rnsB (l:List Rn):Cnt:=.bor 2 (l.map rnP)
abbrev knP (k:Kn):List PV:=[rawP (.int .i64 k.rep),rnsP k.runs]
abbrev knC (k:Kn):Cnt:=.per (aggP (knP k))
abbrev knsP (l:List Kn):PV:=lstP 2 (l.map knP)
abbrev knsB (l:List Kn):Cnt:=.bor 2 (l.map knP)
abbrev pcP (p:Pc):List PV:=[rawP (.string p.rg.lo),rawP (.string p.rg.hi),rawP (.bool p.rg.op),knsP p.set]
abbrev pcC (p:Pc):Cnt:=.per (aggP (pcP p))
abbrev pcsP (l:List Pc):PV:=lstP 4 (l.map pcP)
abbrev pcsB (l:List Pc):Cnt:=.bor 4 (l.map pcP)
/-- right runs -/
def rnR (r:Rn):Bool:=decide (1 ≤ r.fr ∧ r.fr ≤ r.to ∧ r.to ≤ 1099511627776)
theorem rnR_iff (r:Rn):rnR r = true ↔ 1 ≤ r.fr ∧ r.fr ≤ r.to ∧ r.to ≤ 1099511627776:=by unfold rnR;exact decide_eq_true_iff
def rnOk (l:List Rn) (i:Nat):Prop:=∀ h:i < l.length,rnR l[i] = true ∧ ∀ h0:0 < i,l[i - 1].to + 2 ≤ l[i].fr
def rnsOk (l:List Rn):Prop:=∀ i,i < l.length → rnOk l i
/-- right sets -/
def knOk (l:List Kn) (i:Nat):Prop:=∀ h:i < l.length,1 ≤ l[i].rep ∧ l[i].rep ≤ 16 ∧ l[i].runs ≠ [] ∧ rnsOk l[i].runs ∧ ∀ h0:0 < i,l[i - 1].rep < l[i].rep
def knsOk (l:List Kn):Prop:=∀ i,i < l.length → knOk l i
/-- right knowledge -/
def pcOk (l:List Pc) (i:Nat):Prop:=∀ h:i < l.length,rgR l[i].rg = true ∧ l[i].set ≠ [] ∧ knsOk l[i].set ∧ ∀ h0:0 < i,l[i - 1].rg.op = false ∧ cmpB l[i - 1].rg.hi l[i].rg.lo ≤ 0 ∧ ¬ (l[i - 1].rg.hi = l[i].rg.lo ∧ l[i - 1].set = l[i].set)
def pcsOk (l:List Pc):Prop:=∀ i,i < l.length → pcOk l i
instance (l:List Rn) (i:Nat):Decidable (rnOk l i):=by unfold rnOk;infer_instance
instance (l:List Rn):Decidable (rnsOk l):=by unfold rnsOk;infer_instance
instance (l:List Kn) (i:Nat):Decidable (knOk l i):=by unfold knOk;infer_instance
instance (l:List Kn):Decidable (knsOk l):=by unfold knsOk;infer_instance
instance (l:List Pc) (i:Nat):Decidable (pcOk l i):=by unfold pcOk;infer_instance
instance (l:List Pc):Decidable (pcsOk l):=by unfold pcsOk;infer_instance
theorem knsOk_get {l:List Kn} (h:knsOk l) {i:Nat} (hi:i < l.length):1 ≤ l[i].rep ∧ l[i].rep ≤ 16 ∧ l[i].runs ≠ [] ∧ rnsOk l[i].runs:=
 let ⟨a,b,c,d,_⟩:=h i hi hi;⟨a,b,c,d⟩
/-! ### bytes -/
/-! ### read -/
/-! ### put and read -/
end Go.Proofs.YtembiemaiacdfaaGreat
namespace Go.Proofs.YtembiemaiacdfaaGreat
open Go.RowKit Go.Shelf
theorem key_CmpG (s t:ByteArray) (hs:s.size ≤ 1000000000000) (w:World) :
   Calls Tryz.prog 120 #[.string s,.string t] w fun e w'=>e = .returned (.int .i64 (cmpB s t)) ∧ Gw w w':=by
 have HR:Hid (cmpL s.data.toList t.data.toList = cmpB s t):=Lib.hid rfl
 have es:s.data.toList.length = s.size:=by simp
 have et:t.data.toList.length = t.size:=by simp
 generalize hR:cmpB s t = R at *
 clear hR
 go_enter Tryz.func120,Tryz.ntmps120
 go_wp2
 go_loopw [11] (fun i wr=>∃ k:Nat,k ≤ s.size ∧ k ≤ t.size ∧ i = .int .i64 k ∧ Hid (cmpL (s.data.toList.drop k) (t.data.toList.drop k) = R) ∧ Gw w wr) (fun i _=>s.size - (intOf i).toNat)
 case atStart=>exact ⟨0,Nat.zero_le _,Nat.zero_le _,rfl,Lib.hid (by simpa using HR.out),Gw.refl _⟩
 case round=>
   obtain ⟨k,hk,hk',rfl,HK,hx⟩:=hrel
   clear HR
   by_cases hlt:k < s.size ∧ k < t.size
   · obtain ⟨h1,h2⟩:=hlt
     have HS:Hid (cmpL (s.data.toList.drop k) (t.data.toList.drop k) = if (s[k]'h1).toNat < (t[k]'h2).toNat then -1 else if (t[k]'h2).toNat < (s[k]'h1).toNat then 1 else cmpL (s.data.toList.drop (k + 1)) (t.data.toList.drop (k + 1))):=
       Lib.hid (cmpL_step s.data.toList t.data.toList k (by omega) (by omega))
     by_cases c1:(s[k]'h1).toNat < (t[k]'h2).toNat
     · have HE:Hid (R = -1):=Lib.hid (by rw [← HK.out,HS.out,if_pos c1])
       go_wp2
       go_quiet (fail)
       go_wp2
       go_ret
       exact ⟨ret_eq (int_eq HE.out.symm),hx.drewN _⟩
     · by_cases c2:(t[k]'h2).toNat < (s[k]'h1).toNat
       · have HE:Hid (R = 1):=Lib.hid (by rw [← HK.out,HS.out,if_neg c1,if_pos c2])
         go_wp2
         go_quiet (fail)
         go_wp2
         go_quiet (fail)
         go_wp2
         go_ret
         exact ⟨ret_eq (int_eq HE.out.symm),by first|exact hx.drewN _|exact (hx.drewN _).drewN _⟩
       · have HE:Hid (cmpL (s.data.toList.drop (k + 1)) (t.data.toList.drop (k + 1)) = R):=Lib.hid (by rw [← HK.out,HS.out,if_neg c1,if_neg c2])
         go_wp2
         go_quiet (fail)
         go_wp2
         go_quiet (fail)
         go_wp2
         go_roundw
         case rel=>exact ⟨k + 1,by omega,by omega,by go_num,HE,hx.drewN _⟩
         case measure=>simp [intOf];omega
   · have HS:=Lib.hid (cmpL_end s.data.toList t.data.toList k (by omega) (by omega) (by omega))
     by_cases c1:s.size < t.size
     · have HE:Hid (R = -1):=Lib.hid (by rw [← HK.out,HS.out,if_pos (by omega)])
       go_wp2
       go_ret
       exact ⟨ret_eq (int_eq HE.out.symm),hx⟩
     · by_cases c2:t.size < s.size
       · have HE:Hid (R = 1):=Lib.hid (by rw [← HK.out,HS.out,if_neg (by omega),if_pos (by omega)])
         go_wp2
         go_ret
         exact ⟨ret_eq (int_eq HE.out.symm),hx⟩
       · have HE:Hid (R = 0):=Lib.hid (by rw [← HK.out,HS.out,if_neg (by omega),if_neg (by omega)])
         go_wp2
         go_ret
         exact ⟨ret_eq (int_eq HE.out.symm),hx⟩
end Go.Proofs.YtembiemaiacdfaaGreat
