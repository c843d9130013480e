/- Texts joined: DeZ KkR DeW MrR PlC. -/
import Derived.Test.YtembiemaiacdfaaGreatJ20
import Derived.Test.YtembiemaiacdfaaGreatJ05
import Derived.Test.YtembiemaiacdfaaGreatJ37
import Derived.Test.YtembiemaiacdfaaGreatJ22
import Derived.Test.YtembiemaiacdfaaGreatJ12
import Derived.Test.YtembiemaiacdfaaGreatJ30
import Derived.Test.YtembiemaiacdfaaGreatJ38
import Derived.Test.YtembiemaiacdfaaGreatJ34
set_option maxRecDepth 10000
set_option maxHeartbeats 8000000
namespace Go.Proofs.YtembiemaiacdfaaGreat
section
end
section
end
def Mr (o:List It) (k:ByteArray):Bool:=match o.reverse with
 | []=>true
 | z :: _=>decide (bO z.key k < 0)
def Ll (o:List It) (x:It):Bool:=fx x && Mr o x.key
section
structure iy (l o:List It) (i:Nat) (b:Option Nat):Prop where
 le:i ≤ l.length
 hs:∀ j,b = some j → ∃ hj:j < l.length,Ll o l[j] = true ∧ ∀ m (hm:m < l.length),m < i → Ll o l[m] = true → l[j].key ≤ l[m].key
 hn:b = none → ∀ m (hm:m < l.length),m < i → Ll o l[m] = false
theorem iy.zero (l o:List It):iy l o 0 none:=⟨Nat.zero_le _,fun j h=>(by cases h),fun _ m _ h=>absurd h (Nat.not_lt_zero _)⟩
theorem iy.skip {l o:List It} {i:Nat} {b:Option Nat} (h:iy l o i b) (hi:i < l.length) (hc:Ll o l[i] = false):iy l o (i + 1) b:=by
 refine ⟨hi,fun j hj=>?_,fun hb m hm hlt=>?_⟩
 · obtain ⟨a1,a2,a3⟩:=h.hs j hj
   refine ⟨a1,a2,fun m hm hlt hcm=>?_⟩
   rcases Nat.lt_or_ge m i with q|q
   · exact a3 m hm q hcm
   · obtain rfl:m = i:=by omega
     rw [hc] at hcm;cases hcm
 · rcases Nat.lt_or_ge m i with q|q
   · exact h.hn hb m hm q
   · obtain rfl:m = i:=by omega
     exact hc
theorem iy.new {l o:List It} {i:Nat} {b:Option Nat} (h:iy l o i b) (hi:i < l.length) (hc:Ll o l[i] = true) (hb:∀ j (hj:j < l.length),b = some j → bO l[i].key l[j].key < 0):iy l o (i + 1) (some i):=by
 refine ⟨hi,fun j hj=>?_,fun hb=>by cases hb⟩
 cases hj
 refine ⟨hi,hc,fun m hm hlt hcm=>?_⟩
 rcases Nat.lt_or_ge m i with q|q
 · cases b with
   | none=>have:=h.hn rfl m hm q;rw [hcm] at this;cases this
   | some j=>
     obtain ⟨a1,a2,a3⟩:=h.hs j rfl
     have h1:=a3 m hm q hcm
     have h2:=(e9 _ _).1 (hb j a1 rfl)
     grind
 · obtain rfl:m = i:=by omega
   grind
theorem iy.keep {l o:List It} {i j:Nat} (h:iy l o i (.some j)) (hi:i < l.length) (hj:j < l.length) (hb:¬ bO l[i].key l[j].key < 0):iy l o (i + 1) (.some j):=by
 refine ⟨hi,fun k hk=>?_,fun hb=>by cases hb⟩
 cases hk
 obtain ⟨a1,a2,a3⟩:=h.hs j rfl
 refine ⟨a1,a2,fun m hm hlt hcm=>?_⟩
 rcases Nat.lt_or_ge m i with q|q
 · exact a3 m hm q hcm
 · obtain rfl:m = i:=by omega
   rw [e9] at hb
   grind
end
section
end
end Go.Proofs.YtembiemaiacdfaaGreat
