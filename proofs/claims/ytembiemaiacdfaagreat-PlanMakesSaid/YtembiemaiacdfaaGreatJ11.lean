/- Texts joined: IcR Law19P IcLR FcR Law10P KnT SoC. -/
import Derived.Test.YtembiemaiacdfaaGreatJ10
import Derived.Test.YtembiemaiacdfaaGreatJ09
import Derived.Test.YtembiemaiacdfaaGreatJ05
import Derived.Test.YtembiemaiacdfaaGreatJ07
import Derived.Test.YtembiemaiacdfaaGreatJ06
import Derived.Deep.QuietTactic
import Derived.BigQuiet
set_option maxRecDepth 10000
set_option maxHeartbeats 8000000
namespace Go.Proofs.YtembiemaiacdfaaGreat
open Go.RowKit
section
end
section
end
instance (l:List Rg):Decidable (cG l):=by unfold cG rt;infer_instance
section
end
end Go.Proofs.YtembiemaiacdfaaGreat
namespace Go.Proofs.YtembiemaiacdfaaGreat
open Go.RowKit
section
end
structure Rn where
 fr:Int
 to:Int
deriving DecidableEq
structure Kn where
 rep:Int
 runs:List Rn
deriving DecidableEq
structure Pc where
 rg:Rg
 set:List Kn
deriving DecidableEq
def encRn (r:Rn):List Value:=[.int .i64 r.fr,.int .i64 r.to]
theorem vA:Cp 2 encRn:=⟨by decide,fun _=>rfl,fun x u hu=>by
 simp only [encRn,List.mem_cons,List.not_mem_nil,or_false] at hu
 rcases hu with rfl|rfl <;> rfl⟩
abbrev rnP (r:Rn):List PV:=[ao (.int .i64 r.fr),ao (.int .i64 r.to)]
abbrev L8 (r:Rn):Cnt:=.per (bW (rnP r))
abbrev jc (l:List Rn):PV:=bK 2 (l.map rnP)
abbrev ej (l:List Rn):Cnt:=.bor 2 (l.map rnP)
abbrev zv (k:Kn):List PV:=[ao (.int .i64 k.rep),jc k.runs]
abbrev L9 (k:Kn):Cnt:=.per (bW (zv k))
abbrev J4 (l:List Kn):PV:=bK 2 (l.map zv)
abbrev dZ (l:List Kn):Cnt:=.bor 2 (l.map zv)
abbrev pcP (p:Pc):List PV:=[ao (.string p.rg.lo),ao (.string p.rg.hi),ao (.bool p.rg.op),J4 p.set]
abbrev Ma (p:Pc):Cnt:=.per (bW (pcP p))
abbrev ip (l:List Pc):PV:=bK 4 (l.map pcP)
abbrev cQ (l:List Pc):Cnt:=.bor 4 (l.map pcP)
def fV (r:Rn):Bool:=decide (1 ≤ r.fr ∧ r.fr ≤ r.to ∧ r.to ≤ 1099511627776)
theorem br (r:Rn):fV r = true ↔ 1 ≤ r.fr ∧ r.fr ≤ r.to ∧ r.to ≤ 1099511627776:=by unfold fV;exact decide_eq_true_iff
def pZ (l:List Rn) (i:Nat):Prop:=∀ h:i < l.length,fV l[i] = true ∧ ∀ h0:0 < i,l[i - 1].to + 2 ≤ l[i].fr
def cH (l:List Rn):Prop:=∀ i,i < l.length → pZ l i
def xP (l:List Kn) (i:Nat):Prop:=∀ h:i < l.length,1 ≤ l[i].rep ∧ l[i].rep ≤ 16 ∧ l[i].runs ≠ [] ∧ cH l[i].runs ∧ ∀ h0:0 < i,l[i - 1].rep < l[i].rep
def bX (l:List Kn):Prop:=∀ i,i < l.length → xP l i
def p5 (l:List Pc) (i:Nat):Prop:=∀ h:i < l.length,eo l[i].rg = true ∧ l[i].set ≠ [] ∧ bX l[i].set ∧ ∀ h0:0 < i,l[i - 1].rg.op = false ∧ bO l[i - 1].rg.hi l[i].rg.lo ≤ 0 ∧ ¬ (l[i - 1].rg.hi = l[i].rg.lo ∧ l[i - 1].set = l[i].set)
def bd (l:List Pc):Prop:=∀ i,i < l.length → p5 l i
instance (l:List Rn) (i:Nat):Decidable (pZ l i):=by unfold pZ;infer_instance
instance (l:List Rn):Decidable (cH l):=by unfold cH;infer_instance
instance (l:List Kn) (i:Nat):Decidable (xP l i):=by unfold xP;infer_instance
instance (l:List Kn):Decidable (bX l):=by unfold bX;infer_instance
instance (l:List Pc) (i:Nat):Decidable (p5 l i):=by unfold p5;infer_instance
instance (l:List Pc):Decidable (bd l):=by unfold bd;infer_instance
theorem rX {l:List Kn} (h:bX l) {i:Nat} (hi:i < l.length):1 ≤ l[i].rep ∧ l[i].rep ≤ 16 ∧ l[i].runs ≠ [] ∧ cH l[i].runs:=
 let ⟨a,b,c,d,_⟩:=h i hi hi;⟨a,b,c,d⟩
end Go.Proofs.YtembiemaiacdfaaGreat
namespace Go.Proofs.YtembiemaiacdfaaGreat
open Go.RowKit Go.Shelf
theorem vB (s t:ByteArray) (hs:s.size ≤ 1000000000000) (w:World) :
   Calls Tryz.prog 120 #[.string s,.string t] w fun e w'=>e = .returned (.int .i64 (bO s t)) ∧ Gw w w':=by
 have HR:Hid (ci s.data.toList t.data.toList = bO s t):=Lib.hid rfl
 have es:s.data.toList.length = s.size:=by simp
 have et:t.data.toList.length = t.size:=by simp
 generalize hR:bO s t = R at *
 clear hR
 go_enter Tryz.func120,Tryz.ntmps120
 go_wp2
 go_loopw [11] (fun i wr=>∃ k:Nat,k ≤ s.size ∧ k ≤ t.size ∧ i = .int .i64 k ∧ Hid (ci (s.data.toList.drop k) (t.data.toList.drop k) = R) ∧ Gw w wr) (fun i _=>s.size - (intOf i).toNat)
 case atStart=>exact ⟨0,Nat.zero_le _,Nat.zero_le _,rfl,Lib.hid (by simpa using HR.out),Gw.refl _⟩
 case round=>
   obtain ⟨k,hk,hk',rfl,HK,hx⟩:=hrel
   clear HR
   by_cases hlt:k < s.size ∧ k < t.size
   · obtain ⟨h1,h2⟩:=hlt
     have HS:Hid (ci (s.data.toList.drop k) (t.data.toList.drop k) = if (s[k]'h1).toNat < (t[k]'h2).toNat then -1 else if (t[k]'h2).toNat < (s[k]'h1).toNat then 1 else ci (s.data.toList.drop (k + 1)) (t.data.toList.drop (k + 1))):=
       Lib.hid (nQ s.data.toList t.data.toList k (by omega) (by omega))
     by_cases c1:(s[k]'h1).toNat < (t[k]'h2).toNat
     · have HE:Hid (R = -1):=Lib.hid (by rw [← HK.out,HS.out,if_pos c1])
       go_wp2
       go_quiet (fail)
       go_wp2
       go_ret
       exact ⟨lO (lP HE.out.symm),hx.drewN _⟩
     · by_cases c2:(t[k]'h2).toNat < (s[k]'h1).toNat
       · have HE:Hid (R = 1):=Lib.hid (by rw [← HK.out,HS.out,if_neg c1,if_pos c2])
         go_wp2
         go_quiet (fail)
         go_wp2
         go_quiet (fail)
         go_wp2
         go_ret
         exact ⟨lO (lP HE.out.symm),by first|exact hx.drewN _|exact (hx.drewN _).drewN _⟩
       · have HE:Hid (ci (s.data.toList.drop (k + 1)) (t.data.toList.drop (k + 1)) = R):=Lib.hid (by rw [← HK.out,HS.out,if_neg c1,if_neg c2])
         go_wp2
         go_quiet (fail)
         go_wp2
         go_quiet (fail)
         go_wp2
         go_roundw
         case rel=>exact ⟨k + 1,by omega,by omega,by go_num,HE,hx.drewN _⟩
         case measure=>simp [intOf];omega
   · have HS:=Lib.hid (pN s.data.toList t.data.toList k (by omega) (by omega) (by omega))
     by_cases c1:s.size < t.size
     · have HE:Hid (R = -1):=Lib.hid (by rw [← HK.out,HS.out,if_pos (by omega)])
       go_wp2
       go_ret
       exact ⟨lO (lP HE.out.symm),hx⟩
     · by_cases c2:t.size < s.size
       · have HE:Hid (R = 1):=Lib.hid (by rw [← HK.out,HS.out,if_neg (by omega),if_pos (by omega)])
         go_wp2
         go_ret
         exact ⟨lO (lP HE.out.symm),hx⟩
       · have HE:Hid (R = 0):=Lib.hid (by rw [← HK.out,HS.out,if_neg (by omega),if_neg (by omega)])
         go_wp2
         go_ret
         exact ⟨lO (lP HE.out.symm),hx⟩
end Go.Proofs.YtembiemaiacdfaaGreat
