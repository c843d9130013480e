/- Texts joined: CrcP FrP MsP TcP Batch. -/
import Derived.Test.YthlffkjpklpkfaaGreatJ01
import Derived.Test.YthlffkjpklpkfaaGreatJ07
import Derived.Test.YthlffkjpklpkfaaGreatJ11
import Derived.Test.YthlffkjpklpkfaaGreatJ16
import Derived.Test.YthlffkjpklpkfaaGreatJ12
import Derived.Test.YthlffkjpklpkfaaGreatJ18
import Derived.Test.YthlffkjpklpkfaaGreatJ09
set_option maxRecDepth 10000
set_option maxHeartbeats 8000000
namespace Go.Proofs.YthlffkjpklpkfaaGreat
def bitS (s:Nat):Nat:=if s % 2 = 1 then (s / 2) ^^^ 3988292384 else s / 2
def itS:Nat → Nat → Nat
 | 0,s=>s
 | n + 1,s=>itS n (bitS s)
def bytS (s:Nat) (c:UInt8):Nat:=itS 8 (s ^^^ c.toNat)
def runS (s:Nat) (l:List UInt8):Nat:=l.foldl bytS s
def crcS (l:List UInt8):Nat:=runS 4294967295 l ^^^ 4294967295
def tailS (s:Nat):List UInt8:=[UInt8.ofNat s,UInt8.ofNat (s / 256),UInt8.ofNat (s / 65536),UInt8.ofNat (s / 16777216)]
theorem bitS_lt {s:Nat} (h:s < 4294967296):bitS s < 4294967296:=by
 unfold bitS
 split
 · exact Nat.xor_lt_two_pow (n:=32) (by omega) (by omega)
 · omega
theorem itS_lt:∀ (n s:Nat),s < 4294967296 → itS n s < 4294967296:=by
 intro n
 induction n with
 | zero=>intro s h;exact h
 | succ n ih=>intro s h;exact ih _ (bitS_lt h)
theorem bytS_lt {s:Nat} (h:s < 4294967296) (c:UInt8):bytS s c < 4294967296:=by
 have:=c.toNat_lt
 exact itS_lt 8 _ (Nat.xor_lt_two_pow (n:=32) (by omega) (by omega))
theorem runS_lt:∀ (l:List UInt8) {s:Nat},s < 4294967296 → runS s l < 4294967296:=by
 intro l
 induction l with
 | nil=>intro s h;exact h
 | cons c l ih=>intro s h;exact ih (bytS_lt h c)
theorem crcS_lt (l:List UInt8):crcS l < 4294967296:=Nat.xor_lt_two_pow (n:=32) (runS_lt l (by decide)) (by decide)
/-- bytes as one number, the first one least -/
def numL:List UInt8 → Nat
 | []=>0
 | c :: l=>c.toNat + 256 * numL l
theorem numL_lt:∀ l:List UInt8,numL l < 256 ^ l.length:=by
 intro l
 induction l with
 | nil=>simp [numL]
 | cons c l ih=>
   have:=c.toNat_lt
   rw [numL,List.length_cons,Nat.pow_succ]
   omega
theorem numL_app:∀ (a b:List UInt8),numL (a ++ b) = numL a + 2 ^ (8 * a.length) * numL b:=by
 intro a
 induction a with
 | nil=>intro b;simp [numL]
 | cons c a ih=>
   intro b
   rw [List.cons_append,numL,numL,ih,List.length_cons,show 8 * (a.length + 1) = 8 * a.length + 8 by omega,Nat.pow_add,Nat.mul_add,Nat.mul_right_comm]
   have:256 * (2 ^ (8 * a.length) * numL b) = 2 ^ (8 * a.length) * numL b * 2 ^ 8:=by rw [Nat.mul_comm 256]
   omega
theorem numL_inj:∀ {a b:List UInt8},a.length = b.length → numL a = numL b → a = b:=by
 intro a
 induction a with
 | nil=>intro b h _;exact (List.eq_nil_of_length_eq_zero h.symm).symm
 | cons c a ih=>
   intro b h e
   cases b with
   | nil=>simp at h
   | cons d b=>
     have hc:=c.toNat_lt
     have hd:=d.toNat_lt
     rw [numL,numL] at e
     have e1:c = d:=UInt8.toNat_inj.1 (by omega)
     rw [e1,ih (by simpa using h) (by omega)]
end Go.Proofs.YthlffkjpklpkfaaGreat
namespace Go.Proofs.YthlffkjpklpkfaaGreat
/-- a frame, but for its sum -/
def frH (l:List UInt8):List UInt8:=numI (l.length:Nat) ++ l
def frB (l:List UInt8):List UInt8:=frH l ++ tailS (crcS (frH l))
/-- the load of the frame that begins bytes, the frame's size, and what is wrong -/
def nextF (b:List UInt8):List UInt8 × Nat × Int:=
 if (rdNum b).2.2 ≠ 0 then ([],0,(rdNum b).2.2)
 else if 32768 < (rdNum b).1 then ([],0,12)
 else if b.length < (rdNum b).2.1 + (rdNum b).1 + 4 then ([],0,10)
 else if (b.drop ((rdNum b).2.1 + (rdNum b).1)).take 4 = tailS (crcS (b.take ((rdNum b).2.1 + (rdNum b).1))) then ((b.drop (rdNum b).2.1).take (rdNum b).1,(rdNum b).2.1 + (rdNum b).1 + 4,0)
 else ([],0,13)
def openF (b:List UInt8):List UInt8 × Int:=if (nextF b).2.2 = 0 ∧ (nextF b).2.1 < b.length then ([],14) else ((nextF b).1,(nextF b).2.2)
theorem tailS_len (s:Nat):(tailS s).length = 4:=rfl
theorem frH_len (l:List UInt8):(frH l).length = (numI (l.length:Nat)).length + l.length:=by unfold frH;rw [List.length_append]
theorem frB_len (l:List UInt8):(frB l).length = (numI (l.length:Nat)).length + l.length + 4:=by unfold frB;rw [List.length_append,frH_len,tailS_len]
theorem rd_fr (l r:List UInt8) (h:l.length ≤ 32768):rdNum (numI (l.length:Nat) ++ r) = (l.length,(numI (l.length:Nat)).length,0):=by
 have:=put_rd l.length r (by omega)
 unfold numI
 simpa using this
/-- bytes that begin as a frame's do: what they say -/
theorem next_fr {l x t r:List UInt8} (h:l.length ≤ 32768) (hx:x.length = l.length) (ht:t.length = 4) :
   nextF (numI (l.length:Nat) ++ x ++ t ++ r) = if t = tailS (crcS (numI (l.length:Nat) ++ x)) then (x,(numI (l.length:Nat)).length + l.length + 4,0) else ([],0,13):=by
 have e0:numI (l.length:Nat) ++ x ++ t ++ r = numI (l.length:Nat) ++ (x ++ (t ++ r)):=by simp
 unfold nextF
 rw [e0,rd_fr l _ h]
 simp only
 rw [if_neg (by simp),if_neg (by omega),if_neg (by simp only [List.length_append];omega)]
 have e1:((numI (l.length:Nat) ++ (x ++ (t ++ r))).drop ((numI (l.length:Nat)).length + l.length)).take 4 = t:=by
   rw [← List.drop_drop,List.drop_left,← hx,List.drop_left,← ht,List.take_left]
 have e2:(numI (l.length:Nat) ++ (x ++ (t ++ r))).take ((numI (l.length:Nat)).length + l.length) = numI (l.length:Nat) ++ x:=by
   rw [← List.append_assoc,← hx,← List.length_append,List.take_left]
 have e3:((numI (l.length:Nat) ++ (x ++ (t ++ r))).drop (numI (l.length:Nat)).length).take l.length = x:=by
   rw [List.drop_left,← hx,List.take_left]
 rw [e1,e2,e3]
theorem open_frB {l:List UInt8} (h:l.length ≤ 32768):openF (frB l) = (l,0):=by
 have e:=next_fr (l:=l) (x:=l) (t:=tailS (crcS (frH l))) (r:=[]) h rfl rfl
 rw [List.append_nil] at e
 unfold openF
 rw [show frB l = numI (l.length:Nat) ++ l ++ tailS (crcS (frH l)) from rfl,e,if_pos (show tailS (crcS (frH l)) = tailS (crcS (numI (l.length:Nat) ++ l)) from rfl)]
 simp only
 rw [if_neg (fun q=>by have:=q.2;simp only [List.length_append,tailS_len] at this;omega)]
structure Msg where
 kind:Int:=0
 ses:Int:=0
 num:Int:=0
 lim:Int:=0
 seed:Int:=0
 bits:Int:=0
 nxt:Int:=0
 err:Int:=0
 wants:Bool:=false
 same:Bool:=false
 last:Bool:=false
 flt:List Rg:=[]
 know:List Pc:=[]
 there:List UInt8:=[]
 rg:Rg:=⟨⟨#[]⟩,⟨#[]⟩,false⟩
 sum:Nat:=0
 its:List It:=[]
/-- items right, and of unlike keys -/
def ulk:List It → Bool
 | []=>true
 | x :: l=>itR x && (!(l.any fun y=>decide (y.key = x.key)) && ulk l)
def isNum (n:Int):Bool:=decide (0 ≤ n ∧ n ≤ 281474976710656)
def msR (m:Msg):Bool:=
 decide (1 ≤ m.ses) && isNum m.ses && isNum m.num &&
 (if m.kind = 1 then isNum m.lim && isNum m.seed && decide (0 ≤ m.bits ∧ m.bits ≤ 64) && decide (rgsOk m.flt) && decide (pcsOk m.know) && (decide (m.there = []) || decide ((rdBl m.there).2 = 0))
 else if m.kind = 3 then isNum m.nxt
 else if m.kind = 4 then rgR m.rg
 else if m.kind = 5 then isNum m.nxt && decide (m.its.length ≤ 4096) && ulk m.its && decide (pcsOk m.know) && (m.last || decide (m.know = []))
 else decide (m.kind = 2) || (decide (m.kind = 6) && decide (1 ≤ m.err) && isNum m.err))
def bitI (b:Bool):Int:=if b then 1 else 0
/-- the numbers that a message names -/
def msNums (m:Msg):List Int:=[m.kind,m.ses,m.num] ++
 (if m.kind = 1 then [m.lim,m.seed,m.bits,bitI m.wants] else if m.kind = 2 then [bitI m.same] else if m.kind = 3 then [m.nxt] else if m.kind = 5 then [m.nxt,bitI m.last] else if m.kind = 6 then [m.err] else [])
/-- eight bytes of a number, the least first -/
def oct (s:Nat):List UInt8:=(List.range 8).map fun i=>UInt8.ofNat (s / 256 ^ i)
/-- the parts that a message names -/
def msParts (m:Msg):List (List UInt8):=
 if m.kind = 1 then [rgsBy m.flt,knowB m.know,m.there] else if m.kind = 4 then [rgsBy [m.rg],oct m.sum] else if m.kind = 5 then [itemsB m.its,knowB m.know] else []
def txB (l:List UInt8):List UInt8:=textB ⟨l.toArray⟩
def loadB (m:Msg):List UInt8:=(msNums m).flatMap numI ++ (msParts m).flatMap txB
/-- a message's bytes, and what is wrong -/
def putM (m:Msg):List UInt8 × Int:=if msR m then (if (loadB m).length ≤ 32768 then (frB (loadB m),0) else ([],12)) else ([],2)
/-- a message with just what its kind names -/
def plainM (m:Msg):Msg:=
 if m.kind = 1 then { kind:=1,ses:=m.ses,num:=m.num,lim:=m.lim,seed:=m.seed,bits:=m.bits,wants:=m.wants,flt:=m.flt,know:=m.know,there:=m.there }
 else if m.kind = 2 then { kind:=2,ses:=m.ses,num:=m.num,same:=m.same }
 else if m.kind = 3 then { kind:=3,ses:=m.ses,num:=m.num,nxt:=m.nxt }
 else if m.kind = 4 then { kind:=4,ses:=m.ses,num:=m.num,rg:=m.rg,sum:=m.sum }
 else if m.kind = 5 then { kind:=5,ses:=m.ses,num:=m.num,nxt:=m.nxt,last:=m.last,its:=m.its,know:=m.know }
 else if m.kind = 6 then { kind:=6,ses:=m.ses,num:=m.num,err:=m.err }
 else { kind:=m.kind,ses:=m.ses,num:=m.num }
/-! ### read -/
abbrev maxN:Int:=281474976710656
/-- kind, session, number -/
def rdHd (l:List UInt8):Msg × List UInt8 × Int:=
 let a:=withinSt 1 6 l 0
 let b:=withinSt 1 maxN a.2.1 a.2.2
 let c:=numSt b.2.1 b.2.2
 ({ kind:=a.1,ses:=b.1,num:=c.1 },c.2.1,c.2.2)
/-- the numbers behind them -/
def rdNs (m:Msg) (l:List UInt8) (e:Int):Msg × List UInt8 × Int:=
 if m.kind = 1 then
   let a:=numSt l e
   let b:=numSt a.2.1 a.2.2
   let c:=withinSt 0 64 b.2.1 b.2.2
   let d:=withinSt 0 1 c.2.1 c.2.2
   ({ m with lim:=a.1,seed:=b.1,bits:=c.1,wants:=d.1 == 1 },d.2.1,d.2.2)
 else if m.kind = 2 then
   let a:=withinSt 0 1 l e
   ({ m with same:=a.1 == 1 },a.2.1,a.2.2)
 else if m.kind = 3 then
   let a:=numSt l e
   ({ m with nxt:=a.1 },a.2.1,a.2.2)
 else if m.kind = 5 then
   let a:=numSt l e
   let b:=withinSt 0 1 a.2.1 a.2.2
   ({ m with nxt:=a.1,last:=b.1 == 1 },b.2.1,b.2.2)
 else if m.kind = 6 then
   let a:=withinSt 1 maxN l e
   ({ m with err:=a.1 },a.2.1,a.2.2)
 else (m,l,e)
/-- the texts behind them -/
def rdTs:Nat → List UInt8 → Int → List (List UInt8) × List UInt8 × Int
 | 0,l,e=>([],l,e)
 | n + 1,l,e=>
   let a:=textSt maxN l e
   let b:=rdTs n a.2.1 a.2.2
   (a.1 :: b.1,b.2.1,b.2.2)
def ptsN (k:Int):Nat:=if k = 1 then 3 else if k = 4 ∨ k = 5 then 2 else 0
def num8 (l:List UInt8):Nat:=numL l
/-- the parts read -/
def rdPs (m:Msg) (p:List (List UInt8)):Msg × Int:=
 if m.kind = 1 then
   let f:=rdRgs (p.getD 0 [])
   if f.2 ≠ 0 then (m,f.2) else
   let k:=rdKnow (p.getD 1 [])
   if k.2 ≠ 0 then (m,k.2) else ({ m with flt:=f.1,know:=k.1,there:=p.getD 2 [] },0)
 else if m.kind = 4 then
   let f:=rdRgs (p.getD 0 [])
   if f.2 ≠ 0 then (m,f.2) else if f.1.length = 1 ∧ (p.getD 1 []).length = 8 then ({ m with rg:=f.1.getD 0 ⟨⟨#[]⟩,⟨#[]⟩,false⟩,sum:=num8 (p.getD 1 []) },0) else (m,11)
 else if m.kind = 5 then
   let f:=rdItems (p.getD 0 [])
   if f.2 ≠ 0 then (m,f.2) else
   let k:=rdKnow (p.getD 1 [])
   if k.2 ≠ 0 then (m,k.2) else ({ m with its:=f.1,know:=k.1 },0)
 else (m,0)
/-- the message of a load -/
def rdL (l:List UInt8):Msg × Int:=
 let a:=rdHd l
 let b:=rdNs a.1 a.2.1 a.2.2
 let c:=rdTs (ptsN b.1.kind) b.2.1 b.2.2
 if endSt c.2.1 c.2.2 ≠ 0 then ({},endSt c.2.1 c.2.2) else
 let d:=rdPs b.1 c.1
 if d.2 ≠ 0 then ({},d.2) else if msR d.1 then (d.1,0) else ({},11)
/-- the message of bytes -/
def rdM (b:List UInt8):Msg × Int:=if (openF b).2 ≠ 0 then ({},(openF b).2) else rdL (openF b).1
end Go.Proofs.YthlffkjpklpkfaaGreat
namespace Go.Proofs.YthlffkjpklpkfaaGreat
theorem ba_sz (l:List UInt8):(ba l).size = l.length:=by simp [ba,ByteArray.size]
theorem ba_app (a b:List UInt8):ba a ++ ba b = ba (a ++ b):=by
 apply ByteArray.ext
 apply Array.ext'
 simp [ba]
/-- a number's digits -/
def digL (n:Nat):List UInt8:=if h:n < 10 then [UInt8.ofNat (48 + n)] else digL (n / 10) ++ [UInt8.ofNat (48 + n % 10)]
termination_by n
theorem digL_lt {n:Nat} (h:n < 10):digL n = [UInt8.ofNat (48 + n)]:=by rw [digL,dif_pos h]
theorem digL_ge {n:Nat} (h:¬ n < 10):digL n = digL (n / 10) ++ digL (n % 10):=by rw [digL,dif_neg h,digL_lt (Nat.mod_lt _ (by decide))]
theorem digL_ne (n:Nat):digL n ≠ []:=by rw [digL];split <;> simp
theorem digL_len:∀ (k n:Nat),n < 10 ^ (k + 1) → (digL n).length ≤ k + 1:=by
 intro k
 induction k with
 | zero=>intro n h;rw [digL_lt (by simpa using h)];simp
 | succ k ih=>
   intro n h
   by_cases c:n < 10
   · rw [digL_lt c];simp
   · rw [digL,dif_neg c,List.length_append]
     have:=ih (n / 10) (by rw [Nat.pow_succ] at h;omega)
     simp;omega
theorem digL_len64 {n:Nat} (h:n < 18446744073709551616):(digL n).length ≤ 20:=digL_len 19 n (by omega)
/-- no blank, no line's end, and not nothing -/
def wordR (l:List UInt8):Bool:=!l.isEmpty && !l.contains 32 && !l.contains 10
theorem digL_chr:∀ (n:Nat) (c:UInt8),c ∈ digL n → 48 ≤ c.toNat ∧ c.toNat ≤ 57:=by
 intro n
 induction n using Nat.strongRecOn with
 | ind n ih=>
   intro c hc
   rw [digL] at hc
   split at hc
   · simp at hc;subst hc;simp;omega
   · rename_i h
     rw [List.mem_append] at hc
     rcases hc with hc|hc
     · exact ih (n / 10) (by omega) c hc
     · simp at hc;subst hc;simp;omega
theorem wordR_of {l:List UInt8} (h:l ≠ []) (h1:∀ c ∈ l,33 ≤ c.toNat):wordR l = true:=by
 unfold wordR
 have a:l.isEmpty = false:=by cases l with|nil=>exact absurd rfl h|cons _ _=>rfl
 have b:∀ x:UInt8,x.toNat ≤ 32 → l.contains x = false:=fun x hx=>by
   rw [← Bool.not_eq_true,List.contains_iff_mem]
   exact fun q=>by have:=h1 x q;omega
 rw [a,b 32 (by decide),b 10 (by decide)];rfl
theorem digL_word (n:Nat):wordR (digL n) = true:=wordR_of (digL_ne n) fun c hc=>by have:=digL_chr n c hc;omega
/-- a text's word -/
def plainC (c:UInt8):Bool:=decide ((97 ≤ c.toNat ∧ c.toNat ≤ 122) ∨ (48 ≤ c.toNat ∧ c.toNat ≤ 57))
def hexN (n:Nat):Nat:=if n < 10 then 48 + n else 87 + n
def wofC (c:UInt8):List UInt8:=if plainC c then [c] else [45,UInt8.ofNat (hexN (c.toNat / 16)),UInt8.ofNat (hexN (c.toNat % 16))]
def wofL (l:List UInt8):List UInt8:=if l = [] then [95] else l.flatMap wofC
theorem wofC_chr {c x:UInt8} (h:x ∈ wofC c):33 ≤ x.toNat:=by
 unfold wofC at h
 have hc:=c.toNat_lt
 split at h
 · rename_i hp
   simp at h;subst h
   unfold plainC at hp
   simp at hp;omega
 · unfold hexN at h
   simp at h
   rcases h with rfl|rfl|rfl
   · decide
   · simp;split <;> omega
   · simp;split <;> omega
theorem wofC_len (c:UInt8):1 ≤ (wofC c).length ∧ (wofC c).length ≤ 3:=by unfold wofC;split <;> simp
theorem wofL_word (l:List UInt8):wordR (wofL l) = true:=by
 unfold wofL
 split
 · decide
 · rename_i h
   refine wordR_of (fun q=>?_) fun c hc=>?_
   · cases l with
     | nil=>exact h rfl
     | cons x l=>
       rw [List.flatMap_cons] at q
       have h1:=(wofC_len x).1
       have h2:=congrArg List.length q
       rw [List.length_append,List.length_nil] at h2
       omega
   · rw [List.mem_flatMap] at hc
     obtain ⟨x,_,hx⟩:=hc
     exact wofC_chr hx
theorem wofL_len (l:List UInt8):(wofL l).length ≤ 1 + 3 * l.length:=by
 unfold wofL
 split
 · simp
 · have key:∀ l:List UInt8,(l.flatMap wofC).length ≤ 3 * l.length:=by
     intro l
     induction l with
     | nil=>simp
     | cons x l ih=>have:=(wofC_len x).2;rw [List.flatMap_cons,List.length_append,List.length_cons];omega
   have:=key l;omega
/-- words with blanks between -/
def joinL:List (List UInt8) → List UInt8
 | []=>[]
 | [w]=>w
 | w :: v :: l=>w ++ 32 :: joinL (v :: l)
def sizes (l:List It):Nat:=(l.map fun x=>(itB x).length).sum
theorem sizes_snoc (l:List It) (x:It):sizes (l ++ [x]) = sizes l + (itB x).length:=by simp [sizes]
theorem sizes_le (l:List It):sizes l ≤ 200 * l.length:=by
 induction l with
 | nil=>simp [sizes]
 | cons x l ih=>have:=itB_len x;simp only [sizes,List.map_cons,List.sum_cons,List.length_cons] at ih ⊢;omega
theorem batch_Size (l:List It) (hl:l.length ≤ 1000000000):Fn Tryz.prog 74 [itsB l] (.per (rawP (.int .i64 (sizes l:Nat)))):=by
 refine fi Tryz.func74 Tryz.ntmps74 ?_
 (repeat' (first|refine AW_seq ?_|refine AW_block ?_|refine AW_skip ?_|refine AW_exit ?_|refine AW_ret ?_|refine AW_region ?_|refine AW_draw mixed0 ?_|refine AL_nil ?_|refine AD_nil (by kernel_rfl) ?_|refine thenA_n ?_|refine thenA_r ?_|refine thenA_e ?_|refine inB_n ?_|refine inB_r ?_|refine inB_hit ?_|refine inB_miss rfl ?_|(refine AW_cond_per rfl rfl (fun hc=>?_) (fun hc=>?_) <;> (try rw [Bool.not_eq_true'] at hc) <;> (try rw [Bool.not_eq_false'] at hc) <;> (try first|rw [decide_eq_true_eq] at hc|rw [decide_eq_false_iff_not] at hc|rw [beq_iff_eq] at hc|rw [beq_eq_false_iff_ne] at hc|rw [bne_iff_ne] at hc|rw [bne_eq_false_iff_eq] at hc) <;> (repeat rw [List.length_map] at hc) <;> (try first|contradiction|(exfalso;omega)|(exfalso;simp [*] at hc;done)))|((first|apply AL_t rfl|apply AL_0 rfl|apply AD_t rfl|apply AD_0 rfl);focus (first|exact o_auto|(apply u_g;(focus rfl);(first|apply op_guard_raw rfl rfl rfl rfl rfl (as_guard rfl)|apply op_guard_raw rfl rfl rfl rfl rfl rfl);intro g1 g2;(first|(apply u_k 20;(focus rfl);apply u_call;(case hp=>exact ⟨rfl,rfl,rfl⟩);(case ho=>exact ⟨_,rfl⟩);(case' hf=>apply icode_Size);(case hpl=>rfl);(case hg=>(repeat (first|exact GL.nil|(refine GL.cons ?_ ?_;focus (first|exact gl_per (get_gr rfl (by rw [g2];rfl))|exact gl_per (get_gc rfl (by rw [g2];rfl))|exact gl_lst (get_gc rfl (by rw [g2];rfl))|exact gl_bor (get_gc rfl (by rw [g2];rfl))|exact gl_per rfl|exact gl_lst rfl|exact gl_bor rfl)))));all_goals (first|assumption|omega|(simp;done)|(simp;omega)))))|(apply u_g;(focus rfl);(first|apply op_guard rfl rfl rfl rfl rfl (as_guard rfl)|apply op_guard rfl rfl rfl rfl rfl rfl);intro g1 g2;(first|(apply u_k 20;(focus rfl);apply u_call;(case hp=>exact ⟨rfl,rfl,rfl⟩);(case ho=>exact ⟨_,rfl⟩);(case' hf=>apply icode_Size);(case hpl=>rfl);(case hg=>(repeat (first|exact GL.nil|(refine GL.cons ?_ ?_;focus (first|exact gl_per (get_gr rfl (by rw [g2];rfl))|exact gl_per (get_gc rfl (by rw [g2];rfl))|exact gl_lst (get_gc rfl (by rw [g2];rfl))|exact gl_bor (get_gc rfl (by rw [g2];rfl))|exact gl_per rfl|exact gl_lst rfl|exact gl_bor rfl)))));all_goals (first|assumption|omega|(simp;done)|(simp;omega)))))|(apply u_k 20;(focus rfl);first|(apply u_call;(case hp=>exact ⟨rfl,rfl,rfl⟩);(case ho=>exact ⟨_,rfl⟩);(case' hf=>apply icode_Size);(case hpl=>rfl);(case hg=>(repeat (first|exact GL.nil|(refine GL.cons ?_ ?_;focus (first|exact gl_per rfl|exact gl_lst rfl|exact gl_row rfl rfl rfl|exact gl_bor rfl|exact gl_nil rfl|exact gl_nil' rfl)))));all_goals (first|assumption|omega|(simp;done)|(simp;omega)))|(apply u_call_own;(case hp=>exact ⟨rfl,rfl,rfl⟩);(case ho=>exact ⟨_,rfl⟩);(case' hf=>apply icode_Size);(case hg=>(repeat (first|exact GL.nil|(refine GL.cons ?_ ?_;focus (first|exact gl_per rfl|exact gl_lst rfl|exact gl_row rfl rfl rfl|exact gl_bor rfl|exact gl_nil rfl|exact gl_nil' rfl)))));all_goals (first|assumption|omega|(simp;done)|(simp;omega)))|(apply u_call_own2;(case hp=>exact ⟨rfl,rfl,rfl⟩);(case ho=>exact ⟨_,rfl⟩);(case' hf=>apply icode_Size);(case hg=>(repeat (first|exact GL.nil|(refine GL.cons ?_ ?_;focus (first|exact gl_per rfl|exact gl_lst rfl|exact gl_row rfl rfl rfl|exact gl_bor rfl|exact gl_nil rfl|exact gl_nil' rfl)))));all_goals (first|assumption|omega|(simp;done)|(simp;omega))))))))
 refine AW_count l.length (fun k=>mkSt [(3,iC .i64 (sizes (l.take k):Nat)),(6,itsB l),(7,iC .i64 (l.length:Nat)),(8,iC .i64 (k:Nat))] []) ?_ ?_
 · exact le_auto
 · intro k hk
   have hb:=sizes_le (l.take k)
   rw [List.length_take] at hb
   by_cases hlt:k < l.length
   · have hb2:=itB_len l[k]
     have hs:sizes (l.take (k + 1)) = sizes (l.take k) + (itB l[k]).length:=by rw [take_snoc' l k hlt,sizes_snoc]
     (repeat' (first|refine AW_seq ?_|refine AW_block ?_|refine AW_skip ?_|refine AW_exit ?_|refine AW_ret ?_|refine AW_region ?_|refine AW_draw mixed0 ?_|refine AL_nil ?_|refine AD_nil (by kernel_rfl) ?_|refine thenA_n ?_|refine thenA_r ?_|refine thenA_e ?_|refine inB_n ?_|refine inB_r ?_|refine inB_hit ?_|refine inB_miss rfl ?_|(refine AW_cond_per rfl rfl (fun hc=>?_) (fun hc=>?_) <;> (try rw [Bool.not_eq_true'] at hc) <;> (try rw [Bool.not_eq_false'] at hc) <;> (try first|rw [decide_eq_true_eq] at hc|rw [decide_eq_false_iff_not] at hc|rw [beq_iff_eq] at hc|rw [beq_eq_false_iff_ne] at hc|rw [bne_iff_ne] at hc|rw [bne_eq_false_iff_eq] at hc) <;> (repeat rw [List.length_map] at hc) <;> (try first|contradiction|(exfalso;omega)|(exfalso;simp [*] at hc;done)))|((first|apply AL_t rfl|apply AL_0 rfl|apply AD_t rfl|apply AD_0 rfl);focus (first|exact o_auto|(apply u_g;(focus rfl);(first|apply op_guard_raw rfl rfl rfl rfl rfl (as_guard rfl)|apply op_guard_raw rfl rfl rfl rfl rfl rfl);intro g1 g2;(first|(apply u_k 20;(focus rfl);apply u_call;(case hp=>exact ⟨rfl,rfl,rfl⟩);(case ho=>exact ⟨_,rfl⟩);(case' hf=>apply icode_Size);(case hpl=>rfl);(case hg=>(repeat (first|exact GL.nil|(refine GL.cons ?_ ?_;focus (first|exact gl_per (get_gr rfl (by rw [g2];rfl))|exact gl_per (get_gc rfl (by rw [g2];rfl))|exact gl_lst (get_gc rfl (by rw [g2];rfl))|exact gl_bor (get_gc rfl (by rw [g2];rfl))|exact gl_per rfl|exact gl_lst rfl|exact gl_bor rfl)))));all_goals (first|assumption|omega|(simp;done)|(simp;omega)))))|(apply u_g;(focus rfl);(first|apply op_guard rfl rfl rfl rfl rfl (as_guard rfl)|apply op_guard rfl rfl rfl rfl rfl rfl);intro g1 g2;(first|(apply u_k 20;(focus rfl);apply u_call;(case hp=>exact ⟨rfl,rfl,rfl⟩);(case ho=>exact ⟨_,rfl⟩);(case' hf=>apply icode_Size);(case hpl=>rfl);(case hg=>(repeat (first|exact GL.nil|(refine GL.cons ?_ ?_;focus (first|exact gl_per (get_gr rfl (by rw [g2];rfl))|exact gl_per (get_gc rfl (by rw [g2];rfl))|exact gl_lst (get_gc rfl (by rw [g2];rfl))|exact gl_bor (get_gc rfl (by rw [g2];rfl))|exact gl_per rfl|exact gl_lst rfl|exact gl_bor rfl)))));all_goals (first|assumption|omega|(simp;done)|(simp;omega)))))|(apply u_k 20;(focus rfl);first|(apply u_call;(case hp=>exact ⟨rfl,rfl,rfl⟩);(case ho=>exact ⟨_,rfl⟩);(case' hf=>apply icode_Size);(case hpl=>rfl);(case hg=>(repeat (first|exact GL.nil|(refine GL.cons ?_ ?_;focus (first|exact gl_per rfl|exact gl_lst rfl|exact gl_row rfl rfl rfl|exact gl_bor rfl|exact gl_nil rfl|exact gl_nil' rfl)))));all_goals (first|assumption|omega|(simp;done)|(simp;omega)))|(apply u_call_own;(case hp=>exact ⟨rfl,rfl,rfl⟩);(case ho=>exact ⟨_,rfl⟩);(case' hf=>apply icode_Size);(case hg=>(repeat (first|exact GL.nil|(refine GL.cons ?_ ?_;focus (first|exact gl_per rfl|exact gl_lst rfl|exact gl_row rfl rfl rfl|exact gl_bor rfl|exact gl_nil rfl|exact gl_nil' rfl)))));all_goals (first|assumption|omega|(simp;done)|(simp;omega)))|(apply u_call_own2;(case hp=>exact ⟨rfl,rfl,rfl⟩);(case ho=>exact ⟨_,rfl⟩);(case' hf=>apply icode_Size);(case hg=>(repeat (first|exact GL.nil|(refine GL.cons ?_ ?_;focus (first|exact gl_per rfl|exact gl_lst rfl|exact gl_row rfl rfl rfl|exact gl_bor rfl|exact gl_nil rfl|exact gl_nil' rfl)))));all_goals (first|assumption|omega|(simp;done)|(simp;omega))))))))
     refine ⟨hlt,?_⟩
     exact le_auto
   · (repeat' (first|refine AW_seq ?_|refine AW_block ?_|refine AW_skip ?_|refine AW_exit ?_|refine AW_ret ?_|refine AW_region ?_|refine AW_draw mixed0 ?_|refine AL_nil ?_|refine AD_nil (by kernel_rfl) ?_|refine thenA_n ?_|refine thenA_r ?_|refine thenA_e ?_|refine inB_n ?_|refine inB_r ?_|refine inB_hit ?_|refine inB_miss rfl ?_|(refine AW_cond_per rfl rfl (fun hc=>?_) (fun hc=>?_) <;> (try rw [Bool.not_eq_true'] at hc) <;> (try rw [Bool.not_eq_false'] at hc) <;> (try first|rw [decide_eq_true_eq] at hc|rw [decide_eq_false_iff_not] at hc|rw [beq_iff_eq] at hc|rw [beq_eq_false_iff_ne] at hc|rw [bne_iff_ne] at hc|rw [bne_eq_false_iff_eq] at hc) <;> (repeat rw [List.length_map] at hc) <;> (try first|contradiction|(exfalso;omega)|(exfalso;simp [*] at hc;done)))|((first|apply AL_t rfl|apply AL_0 rfl|apply AD_t rfl|apply AD_0 rfl);focus (first|exact o_auto|(apply u_g;(focus rfl);(first|apply op_guard_raw rfl rfl rfl rfl rfl (as_guard rfl)|apply op_guard_raw rfl rfl rfl rfl rfl rfl);intro g1 g2;(first|(apply u_k 20;(focus rfl);apply u_call;(case hp=>exact ⟨rfl,rfl,rfl⟩);(case ho=>exact ⟨_,rfl⟩);(case' hf=>apply icode_Size);(case hpl=>rfl);(case hg=>(repeat (first|exact GL.nil|(refine GL.cons ?_ ?_;focus (first|exact gl_per (get_gr rfl (by rw [g2];rfl))|exact gl_per (get_gc rfl (by rw [g2];rfl))|exact gl_lst (get_gc rfl (by rw [g2];rfl))|exact gl_bor (get_gc rfl (by rw [g2];rfl))|exact gl_per rfl|exact gl_lst rfl|exact gl_bor rfl)))));all_goals (first|assumption|omega|(simp;done)|(simp;omega)))))|(apply u_g;(focus rfl);(first|apply op_guard rfl rfl rfl rfl rfl (as_guard rfl)|apply op_guard rfl rfl rfl rfl rfl rfl);intro g1 g2;(first|(apply u_k 20;(focus rfl);apply u_call;(case hp=>exact ⟨rfl,rfl,rfl⟩);(case ho=>exact ⟨_,rfl⟩);(case' hf=>apply icode_Size);(case hpl=>rfl);(case hg=>(repeat (first|exact GL.nil|(refine GL.cons ?_ ?_;focus (first|exact gl_per (get_gr rfl (by rw [g2];rfl))|exact gl_per (get_gc rfl (by rw [g2];rfl))|exact gl_lst (get_gc rfl (by rw [g2];rfl))|exact gl_bor (get_gc rfl (by rw [g2];rfl))|exact gl_per rfl|exact gl_lst rfl|exact gl_bor rfl)))));all_goals (first|assumption|omega|(simp;done)|(simp;omega)))))|(apply u_k 20;(focus rfl);first|(apply u_call;(case hp=>exact ⟨rfl,rfl,rfl⟩);(case ho=>exact ⟨_,rfl⟩);(case' hf=>apply icode_Size);(case hpl=>rfl);(case hg=>(repeat (first|exact GL.nil|(refine GL.cons ?_ ?_;focus (first|exact gl_per rfl|exact gl_lst rfl|exact gl_row rfl rfl rfl|exact gl_bor rfl|exact gl_nil rfl|exact gl_nil' rfl)))));all_goals (first|assumption|omega|(simp;done)|(simp;omega)))|(apply u_call_own;(case hp=>exact ⟨rfl,rfl,rfl⟩);(case ho=>exact ⟨_,rfl⟩);(case' hf=>apply icode_Size);(case hg=>(repeat (first|exact GL.nil|(refine GL.cons ?_ ?_;focus (first|exact gl_per rfl|exact gl_lst rfl|exact gl_row rfl rfl rfl|exact gl_bor rfl|exact gl_nil rfl|exact gl_nil' rfl)))));all_goals (first|assumption|omega|(simp;done)|(simp;omega)))|(apply u_call_own2;(case hp=>exact ⟨rfl,rfl,rfl⟩);(case ho=>exact ⟨_,rfl⟩);(case' hf=>apply icode_Size);(case hg=>(repeat (first|exact GL.nil|(refine GL.cons ?_ ?_;focus (first|exact gl_per rfl|exact gl_lst rfl|exact gl_row rfl rfl rfl|exact gl_bor rfl|exact gl_nil rfl|exact gl_nil' rfl)))));all_goals (first|assumption|omega|(simp;done)|(simp;omega))))))))
     refine rt1 ?_
     exact rv_int rfl (by rw [List.take_of_length_le (by omega)])
end Go.Proofs.YthlffkjpklpkfaaGreat
