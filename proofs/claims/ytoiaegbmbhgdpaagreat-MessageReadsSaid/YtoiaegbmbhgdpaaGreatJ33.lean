/- Texts joined: CrcP FrP. -/
import Derived.Test.YtoiaegbmbhgdpaaGreatJ01
import Derived.Test.YtoiaegbmbhgdpaaGreatJ18
namespace Go.Proofs.YtoiaegbmbhgdpaaGreat
def bitS (s : Nat) : Nat := if s % 2 = 1 then (s / 2) ^^^ 3988292384 else s / 2
def itS : Nat → Nat → Nat
  | 0, s => s
  | n + 1, s => itS n (bitS s)
def bytS (s : Nat) (c : UInt8) : Nat := itS 8 (s ^^^ c.toNat)
def runS (s : Nat) (l : List UInt8) : Nat := l.foldl bytS s
def crcS (l : List UInt8) : Nat := runS 4294967295 l ^^^ 4294967295
def tailS (s : Nat) : List UInt8 := [UInt8.ofNat s, UInt8.ofNat (s / 256), UInt8.ofNat (s / 65536), UInt8.ofNat (s / 16777216)]
theorem bitS_lt {s : Nat} (h : s < 4294967296) : bitS s < 4294967296 := by
  unfold bitS
  split
  · exact Nat.xor_lt_two_pow (n := 32) (by omega) (by omega)
  · omega
theorem itS_lt : ∀ (n s : Nat), s < 4294967296 → itS n s < 4294967296 := by
  intro n
  induction n with
  | zero => intro s h; exact h
  | succ n ih => intro s h; exact ih _ (bitS_lt h)
theorem bytS_lt {s : Nat} (h : s < 4294967296) (c : UInt8) : bytS s c < 4294967296 := by
  have := c.toNat_lt
  exact itS_lt 8 _ (Nat.xor_lt_two_pow (n := 32) (by omega) (by omega))
theorem runS_lt : ∀ (l : List UInt8) {s : Nat}, s < 4294967296 → runS s l < 4294967296 := by
  intro l
  induction l with
  | nil => intro s h; exact h
  | cons c l ih => intro s h; exact ih (bytS_lt h c)
theorem crcS_lt (l : List UInt8) : crcS l < 4294967296 := Nat.xor_lt_two_pow (n := 32) (runS_lt l (by decide)) (by decide)
theorem xor_mod2 (a b : Nat) : (a ^^^ b) % 2 = (a % 2) ^^^ (b % 2) := by
  have := Nat.xor_mod_two_pow (a := a) (b := b) (n := 1)
  simpa using this
theorem xor_div2 (a b : Nat) : (a ^^^ b) / 2 = (a / 2) ^^^ (b / 2) := by
  have := Nat.shiftRight_xor_distrib (a := a) (b := b) (i := 1)
  simpa [Nat.shiftRight_eq_div_pow] using this
theorem bitS_xor (a b : Nat) : bitS (a ^^^ b) = bitS a ^^^ bitS b := by
  unfold bitS
  rw [xor_mod2, xor_div2]
  rcases Nat.mod_two_eq_zero_or_one a with ha | ha <;> rcases Nat.mod_two_eq_zero_or_one b with hb | hb <;> rw [ha, hb]
  · rw [if_neg (by decide), if_neg (by decide), if_neg (by decide)]
  · rw [if_pos (by decide), if_neg (by decide), if_pos (by decide), Nat.xor_assoc]
  · rw [if_pos (by decide), if_pos (by decide), if_neg (by decide), Nat.xor_assoc, Nat.xor_assoc, Nat.xor_comm (b / 2)]
  · rw [if_neg (by decide), if_pos (by decide), if_pos (by decide)]
    rw [Nat.xor_assoc, ← Nat.xor_assoc 3988292384, Nat.xor_comm 3988292384 (b / 2), Nat.xor_assoc (b / 2), Nat.xor_self, Nat.xor_zero]
theorem itS_xor : ∀ (n a b : Nat), itS n (a ^^^ b) = itS n a ^^^ itS n b := by
  intro n
  induction n with
  | zero => intro a b; rfl
  | succ n ih => intro a b; rw [itS, bitS_xor, ih]; rfl
theorem bitS_ne {s : Nat} (h : s < 4294967296) (h0 : s ≠ 0) : bitS s ≠ 0 := by
  unfold bitS
  split
  · intro e
    have e : s / 2 = 3988292384 := by
      have := congrArg (· ^^^ 3988292384) e
      simpa [Nat.xor_assoc, Nat.xor_self] using this
    omega
  · omega
theorem itS_ne : ∀ (n : Nat) {s : Nat}, s < 4294967296 → s ≠ 0 → itS n s ≠ 0 := by
  intro n
  induction n with
  | zero => intro s _ h; exact h
  | succ n ih => intro s h h0; exact ih (bitS_lt h) (bitS_ne h h0)
theorem itS_add : ∀ (m n s : Nat), itS (m + n) s = itS n (itS m s) := by
  intro m
  induction m with
  | zero => intro n s; rw [Nat.zero_add]; rfl
  | succ m ih => intro n s; rw [Nat.succ_add]; exact ih n (bitS s)
/-- bytes as one number, the first one least -/
def numL : List UInt8 → Nat
  | [] => 0
  | c :: l => c.toNat + 256 * numL l
theorem numL_lt : ∀ l : List UInt8, numL l < 256 ^ l.length := by
  intro l
  induction l with
  | nil => simp [numL]
  | cons c l ih =>
    have := c.toNat_lt
    rw [numL, List.length_cons, Nat.pow_succ]
    omega
/-- eight places on, without a bit that falls out: a number of eight nought bits -/
theorem itS_even : ∀ (n x : Nat), itS n (2 ^ n * x) = x := by
  intro n
  induction n with
  | zero => intro x; rw [itS]; omega
  | succ n ih =>
    intro x
    have e : bitS (2 ^ (n + 1) * x) = 2 ^ n * x := by
      have q : 2 ^ (n + 1) * x = 2 * (2 ^ n * x) := by rw [Nat.pow_succ, Nat.mul_comm (2 ^ n) 2, Nat.mul_assoc]
      unfold bitS
      rw [if_neg (by omega)]; omega
    rw [itS, e, ih]
theorem add_xor (c : Nat) (h : c < 256) (x : Nat) : c + 256 * x = c ^^^ (256 * x) := by
  have := Nat.two_pow_add_eq_or_of_lt (i := 8) (b := c) (by omega) x
  have e : (256 * x) &&& c = 0 := by
    apply Nat.eq_of_testBit_eq
    intro i
    rw [Nat.testBit_and, Nat.zero_testBit, show 256 * x = 2 ^ 8 * x from rfl, Nat.testBit_two_pow_mul]
    by_cases hi : 8 ≤ i
    · rw [Nat.testBit_lt_two_pow (x := c) (i := i) (Nat.lt_of_lt_of_le h (Nat.pow_le_pow_right (n := 2) (by decide) hi)), Bool.and_false]
    · rw [decide_eq_false hi, Bool.false_and, Bool.false_and]
  apply Nat.eq_of_testBit_eq
  intro i
  rw [Nat.testBit_xor, show 256 * x = 2 ^ 8 * x from rfl, Nat.testBit_two_pow_mul]
  rw [Nat.add_comm, show 256 * x = 2 ^ 8 * x from rfl, Nat.testBit_two_pow_mul_add _ (by omega : c < 2 ^ 8)]
  by_cases hi : 8 ≤ i
  · rw [if_neg (by omega), Nat.testBit_lt_two_pow (x := c) (i := i) (Nat.lt_of_lt_of_le h (Nat.pow_le_pow_right (n := 2) (by decide) hi)), decide_eq_true hi]; simp
  · rw [if_pos (by omega), decide_eq_false hi]; simp
/-- the sum's state behind bytes, as one number -/
theorem runS_num : ∀ (l : List UInt8) (s : Nat), runS s l = itS (8 * l.length) (s ^^^ numL l) := by
  intro l
  induction l with
  | nil => intro s; show s = s ^^^ 0; rw [Nat.xor_zero]
  | cons c l ih =>
    intro s
    have hc := c.toNat_lt
    show runS (bytS s c) l = _
    rw [ih, List.length_cons, show 8 * (l.length + 1) = 8 + 8 * l.length by omega, itS_add, numL, add_xor _ (by omega), ← Nat.xor_assoc, itS_xor 8, show 256 * numL l = 2 ^ 8 * numL l from rfl, itS_even]
    rfl
theorem runS_app (s : Nat) (a b : List UInt8) : runS s (a ++ b) = runS (runS s a) b := by unfold runS; rw [List.foldl_append]
/-- bits that are turned within 32 side by side are told -/
theorem runS_turn {x y : List UInt8} {k w s : Nat} (hl : x.length = y.length) (hd : numL x ^^^ numL y = 2 ^ k * w) (hk : k ≤ 8 * x.length) (h0 : w ≠ 0) (hw : w < 4294967296) : runS s x ≠ runS s y := by
  rw [runS_num, runS_num, ← hl]
  intro e1
  have e2 : itS (8 * x.length) (2 ^ k * w) = 0 := by
    rw [← hd]
    have : numL x ^^^ numL y = (s ^^^ numL x) ^^^ (s ^^^ numL y) := by
      rw [Nat.xor_comm s (numL x), Nat.xor_assoc, ← Nat.xor_assoc s s, Nat.xor_self, Nat.zero_xor]
    rw [this, itS_xor, e1, Nat.xor_self]
  have e3 : 8 * x.length = k + (8 * x.length - k) := by omega
  rw [e3, itS_add, itS_even] at e2
  exact itS_ne _ hw h0 e2
theorem xor_can {a b : Nat} (c : Nat) (h : a ^^^ c = b ^^^ c) : a = b := by
  have := congrArg (· ^^^ c) h
  simpa [Nat.xor_assoc, Nat.xor_self] using this
theorem crcS_turn {h x y : List UInt8} {k w : Nat} (hl : x.length = y.length) (hd : numL x ^^^ numL y = 2 ^ k * w) (hk : k ≤ 8 * x.length) (h0 : w ≠ 0) (hw : w < 4294967296) : crcS (h ++ x) ≠ crcS (h ++ y) := by
  unfold crcS
  rw [runS_app, runS_app]
  exact fun e => runS_turn hl hd hk h0 hw (xor_can _ e)
theorem tailS_inj {a b : Nat} (ha : a < 4294967296) (hb : b < 4294967296) (h : tailS a = tailS b) : a = b := by
  unfold tailS at h
  simp only [List.cons.injEq, and_true] at h
  obtain ⟨h1, h2, h3, h4⟩ := h
  have h1 := congrArg UInt8.toNat h1
  have h2 := congrArg UInt8.toNat h2
  have h3 := congrArg UInt8.toNat h3
  have h4 := congrArg UInt8.toNat h4
  rw [UInt8.toNat_ofNat', UInt8.toNat_ofNat'] at h1 h2 h3 h4
  omega
theorem numL_app : ∀ (a b : List UInt8), numL (a ++ b) = numL a + 2 ^ (8 * a.length) * numL b := by
  intro a
  induction a with
  | nil => intro b; simp [numL]
  | cons c a ih =>
    intro b
    rw [List.cons_append, numL, numL, ih, List.length_cons, show 8 * (a.length + 1) = 8 * a.length + 8 by omega, Nat.pow_add, Nat.mul_add, Nat.mul_right_comm]
    have : 256 * (2 ^ (8 * a.length) * numL b) = 2 ^ (8 * a.length) * numL b * 2 ^ 8 := by rw [Nat.mul_comm 256]
    omega
/-- one bit of one byte is turned -/
def flipB (l : List UInt8) (k : Nat) : List UInt8 := l.set (k / 8) (UInt8.ofNat ((l.getD (k / 8) 0).toNat ^^^ 2 ^ (k % 8)))
theorem numL_flip : ∀ (l : List UInt8) (k : Nat), k < 8 * l.length → numL (flipB l k) = numL l ^^^ 2 ^ k := by
  intro l
  induction l with
  | nil => intro k h; simp at h
  | cons c l ih =>
    intro k h
    have hc := c.toNat_lt
    rw [List.length_cons] at h
    by_cases h8 : k < 8
    · have e0 : k / 8 = 0 := by omega
      have e1 : k % 8 = k := by omega
      have hp : 2 ^ k < 256 := Nat.lt_of_lt_of_le (Nat.pow_lt_pow_right (by decide) h8) (by decide)
      have hx : c.toNat ^^^ 2 ^ k < 256 := Nat.xor_lt_two_pow (n := 8) (by omega) hp
      unfold flipB
      rw [e0, e1]
      show numL (UInt8.ofNat (c.toNat ^^^ 2 ^ k) :: l) = numL (c :: l) ^^^ 2 ^ k
      rw [numL, numL, UInt8.toNat_ofNat', Nat.mod_eq_of_lt hx, add_xor _ hx, add_xor _ (by omega), Nat.xor_assoc, Nat.xor_comm (2 ^ k), ← Nat.xor_assoc]
    · obtain ⟨q, rfl⟩ : ∃ q, k = q + 8 := ⟨k - 8, by omega⟩
      have e0 : (q + 8) / 8 = q / 8 + 1 := by omega
      have e1 : (q + 8) % 8 = q % 8 := by omega
      have := ih q (by omega)
      have e2 : flipB (c :: l) (q + 8) = c :: flipB l q := by
        unfold flipB
        rw [e0, e1]; rfl
      rw [e2, numL, numL, this, add_xor _ (by omega), add_xor _ (by omega), Nat.xor_assoc]
      congr 1
      rw [Nat.pow_add]
      have : ∀ a b : Nat, 256 * (a ^^^ b) = (256 * a) ^^^ (256 * b) := fun a b => by
        have := Nat.shiftLeft_xor_distrib (a := a) (b := b) (i := 8)
        simpa [Nat.shiftLeft_eq, Nat.mul_comm] using this
      rw [this, Nat.mul_comm 256 (2 ^ q)]
theorem flipB_len (l : List UInt8) (k : Nat) : (flipB l k).length = l.length := by simp [flipB]
theorem mod_pow_bit {t i : Nat} (h : t / 2 ^ i % 2 = 1) : t % 2 ^ (i + 1) = t % 2 ^ i ^^^ 2 ^ i := by
  rw [Nat.mod_pow_succ, h, Nat.mul_one, Nat.add_comm]
  have := Nat.two_pow_add_eq_or_of_lt (i := i) (b := t % 2 ^ i) (Nat.mod_lt _ (Nat.two_pow_pos i)) 1
  rw [Nat.mul_one] at this
  apply Nat.eq_of_testBit_eq
  intro j
  rw [this, Nat.testBit_or, Nat.testBit_xor, Nat.testBit_two_pow]
  by_cases hj : i = j
  · subst hj
    rw [Nat.testBit_lt_two_pow (Nat.mod_lt _ (Nat.two_pow_pos i))]; simp
  · simp [hj]
theorem mod_pow_no {t i : Nat} (h : t / 2 ^ i % 2 = 0) : t % 2 ^ (i + 1) = t % 2 ^ i := by
  rw [Nat.mod_pow_succ, h, Nat.mul_zero, Nat.add_zero]
theorem mul_xor_pow (p a b : Nat) : 2 ^ p * (a ^^^ b) = (2 ^ p * a) ^^^ (2 ^ p * b) := by
  have := Nat.shiftLeft_xor_distrib (a := a) (b := b) (i := p)
  simpa [Nat.shiftLeft_eq, Nat.mul_comm] using this
theorem flip_step {l cur : List UInt8} {p t i : Nat} (h : numL cur = numL l ^^^ 2 ^ p * (t % 2 ^ i)) (hb : t / 2 ^ i % 2 = 1) (hlen : p + i < 8 * cur.length) :
    numL (flipB cur (p + i)) = numL l ^^^ 2 ^ p * (t % 2 ^ (i + 1)) := by
  rw [numL_flip _ _ hlen, h, mod_pow_bit hb, mul_xor_pow, Nat.pow_add, Nat.xor_assoc]
theorem flip_diff {l cur : List UInt8} {p w : Nat} (h : numL cur = numL l ^^^ 2 ^ p * w) : numL cur ^^^ numL l = 2 ^ p * w := by
  rw [h, Nat.xor_comm (numL l), Nat.xor_assoc, Nat.xor_self, Nat.xor_zero]
theorem numL_inj : ∀ {a b : List UInt8}, a.length = b.length → numL a = numL b → a = b := by
  intro a
  induction a with
  | nil => intro b h _; exact (List.eq_nil_of_length_eq_zero h.symm).symm
  | cons c a ih =>
    intro b h e
    cases b with
    | nil => simp at h
    | cons d b =>
      have hc := c.toNat_lt
      have hd := d.toNat_lt
      rw [numL, numL] at e
      have e1 : c = d := UInt8.toNat_inj.1 (by omega)
      rw [e1, ih (by simpa using h) (by omega)]
end Go.Proofs.YtoiaegbmbhgdpaaGreat
namespace Go.Proofs.YtoiaegbmbhgdpaaGreat
/-- a frame, but for its sum -/
def frH (l : List UInt8) : List UInt8 := numI (l.length : Nat) ++ l
def frB (l : List UInt8) : List UInt8 := frH l ++ tailS (crcS (frH l))
/-- the load of the frame that begins bytes, the frame's size, and what is wrong -/
def nextF (b : List UInt8) : List UInt8 × Nat × Int :=
  if (rdNum b).2.2 ≠ 0 then ([], 0, (rdNum b).2.2)
  else if 32768 < (rdNum b).1 then ([], 0, 12)
  else if b.length < (rdNum b).2.1 + (rdNum b).1 + 4 then ([], 0, 10)
  else if (b.drop ((rdNum b).2.1 + (rdNum b).1)).take 4 = tailS (crcS (b.take ((rdNum b).2.1 + (rdNum b).1))) then ((b.drop (rdNum b).2.1).take (rdNum b).1, (rdNum b).2.1 + (rdNum b).1 + 4, 0)
  else ([], 0, 13)
def openF (b : List UInt8) : List UInt8 × Int := if (nextF b).2.2 = 0 ∧ (nextF b).2.1 < b.length then ([], 14) else ((nextF b).1, (nextF b).2.2)
theorem tailS_len (s : Nat) : (tailS s).length = 4 := rfl
theorem frH_len (l : List UInt8) : (frH l).length = (numI (l.length : Nat)).length + l.length := by unfold frH; rw [List.length_append]
theorem frB_len (l : List UInt8) : (frB l).length = (numI (l.length : Nat)).length + l.length + 4 := by unfold frB; rw [List.length_append, frH_len, tailS_len]
theorem rd_fr (l r : List UInt8) (h : l.length ≤ 32768) : rdNum (numI (l.length : Nat) ++ r) = (l.length, (numI (l.length : Nat)).length, 0) := by
  have := put_rd l.length r (by omega)
  unfold numI
  simpa using this
/-- bytes that begin as a frame's do: what they say -/
theorem next_fr {l x t r : List UInt8} (h : l.length ≤ 32768) (hx : x.length = l.length) (ht : t.length = 4) :
    nextF (numI (l.length : Nat) ++ x ++ t ++ r) = if t = tailS (crcS (numI (l.length : Nat) ++ x)) then (x, (numI (l.length : Nat)).length + l.length + 4, 0) else ([], 0, 13) := by
  have e0 : numI (l.length : Nat) ++ x ++ t ++ r = numI (l.length : Nat) ++ (x ++ (t ++ r)) := by simp
  unfold nextF
  rw [e0, rd_fr l _ h]
  simp only
  rw [if_neg (by simp), if_neg (by omega), if_neg (by simp only [List.length_append]; omega)]
  have e1 : ((numI (l.length : Nat) ++ (x ++ (t ++ r))).drop ((numI (l.length : Nat)).length + l.length)).take 4 = t := by
    rw [← List.drop_drop, List.drop_left, ← hx, List.drop_left, ← ht, List.take_left]
  have e2 : (numI (l.length : Nat) ++ (x ++ (t ++ r))).take ((numI (l.length : Nat)).length + l.length) = numI (l.length : Nat) ++ x := by
    rw [← List.append_assoc, ← hx, ← List.length_append, List.take_left]
  have e3 : ((numI (l.length : Nat) ++ (x ++ (t ++ r))).drop (numI (l.length : Nat)).length).take l.length = x := by
    rw [List.drop_left, ← hx, List.take_left]
  rw [e1, e2, e3]
theorem open_frB {l : List UInt8} (h : l.length ≤ 32768) : openF (frB l) = (l, 0) := by
  have e := next_fr (l := l) (x := l) (t := tailS (crcS (frH l))) (r := []) h rfl rfl
  rw [List.append_nil] at e
  unfold openF
  rw [show frB l = numI (l.length : Nat) ++ l ++ tailS (crcS (frH l)) from rfl, e, if_pos (show tailS (crcS (frH l)) = tailS (crcS (numI (l.length : Nat) ++ l)) from rfl)]
  simp only
  rw [if_neg (fun q => by have := q.2; simp only [List.length_append, tailS_len] at this; omega)]
/-- of a frame some bits of its load are turned -/
theorem open_turn {l x : List UInt8} {k w : Nat} (h : l.length ≤ 32768) (hx : x.length = l.length) (hd : numL x = numL l ^^^ 2 ^ k * w) (hk : k ≤ 8 * l.length) (h0 : w ≠ 0) (hw : w < 4294967296) :
    openF (numI (l.length : Nat) ++ x ++ tailS (crcS (frH l))) = ([], 13) := by
  have e := next_fr (l := l) (x := x) (t := tailS (crcS (frH l))) (r := []) h hx rfl
  rw [List.append_nil, if_neg (fun q => by
    have q := tailS_inj (crcS_lt _) (crcS_lt _) q
    exact crcS_turn (h := numI (l.length : Nat)) (x := x) (y := l) hx (flip_diff hd) (by omega) h0 hw q.symm)] at e
  unfold openF
  rw [e]
  simp
theorem open_back {b : List UInt8} (h : (openF b).2 = 0) : frB (openF b).1 = b ∧ (openF b).1.length ≤ 32768 := by
  unfold openF at h ⊢
  by_cases c : (nextF b).2.2 = 0 ∧ (nextF b).2.1 < b.length
  · rw [if_pos c] at h; simp at h
  rw [if_neg c] at h ⊢
  simp only at h ⊢
  have c : b.length ≤ (nextF b).2.1 := by
    rcases Nat.lt_or_ge (nextF b).2.1 b.length with q | q
    · exact absurd ⟨h, q⟩ c
    · exact q
  unfold nextF at h c ⊢
  by_cases c1 : (rdNum b).2.2 ≠ 0
  · rw [if_pos c1] at h; exact absurd h c1
  rw [if_neg c1] at h c ⊢
  by_cases c2 : 32768 < (rdNum b).1
  · rw [if_pos c2] at h; simp at h
  rw [if_neg c2] at h c ⊢
  by_cases c3 : b.length < (rdNum b).2.1 + (rdNum b).1 + 4
  · rw [if_pos c3] at h; simp at h
  rw [if_neg c3] at h c ⊢
  by_cases c4 : ¬ (b.drop ((rdNum b).2.1 + (rdNum b).1)).take 4 = tailS (crcS (b.take ((rdNum b).2.1 + (rdNum b).1)))
  · rw [if_neg c4] at h; simp at h
  replace c4 := Decidable.not_not.1 c4
  rw [if_pos c4] at h c ⊢
  simp only at c ⊢
  obtain ⟨h1, h2, h3, h4⟩ := rd_put (l := b) (by simpa using c1)
  have hl : ((b.drop (rdNum b).2.1).take (rdNum b).1).length = (rdNum b).1 := by rw [List.length_take, List.length_drop]; omega
  refine ⟨?_, by rw [hl]; omega⟩
  have e1 : frH ((b.drop (rdNum b).2.1).take (rdNum b).1) = b.take ((rdNum b).2.1 + (rdNum b).1) := by
    unfold frH
    rw [hl, List.take_add, ← h1]
    unfold numI
    simp
  unfold frB
  rw [e1, ← c4]
  have : (b.drop ((rdNum b).2.1 + (rdNum b).1)).take 4 = b.drop ((rdNum b).2.1 + (rdNum b).1) := List.take_of_length_le (by rw [List.length_drop]; omega)
  rw [this, List.take_append_drop]
/-- a first part of a frame is short -/
theorem open_short {l : List UInt8} (h : l.length ≤ 32768) {c : Nat} (hc : c < (frB l).length) : openF ((frB l).take c) = ([], 10) := by
  have hl := frB_len l
  have key : (nextF ((frB l).take c)).2.2 = 10 ∧ (nextF ((frB l).take c)).1 = [] := by
    have htl : ((frB l).take c).length = c := by rw [List.length_take]; omega
    by_cases hh : c < (numI (l.length : Nat)).length
    · have e : (frB l).take c = (numI (l.length : Nat)).take c := by
        unfold frB frH
        rw [List.append_assoc, List.take_append_of_le_length (by omega)]
      obtain ⟨xs, d, hs, hx, hd, _, _⟩ := numB_shape l.length
      have hn : numI (l.length : Nat) = xs ++ [d] := by unfold numI; simpa using hs
      have hxl : c ≤ xs.length := by rw [hn, List.length_append] at hh; simp at hh; omega
      have e2 : (frB l).take c = xs.take c := by rw [e, hn, List.take_append_of_le_length hxl]
      have hall : ∀ y ∈ xs.take c, 128 ≤ y.toNat := fun y hy => hx y (List.mem_of_mem_take hy)
      have hlen : (xs.take c).length = c := by rw [List.length_take]; omega
      have hxs : xs.length < 8 := by
        have := numI_len8 (l.length : Nat) (by omega)
        rw [hn, List.length_append] at this; simp at this; omega
      have hr : (rdNum (xs.take c)).2.2 = 10 := by
        have hld : lead (xs.take c) = c := by
          have h1 := lead_le (xs.take c)
          rw [hlen] at h1
          rcases Nat.lt_or_ge (lead (xs.take c)) c with q | q
          · have h2 := lead_at (xs.take c) (by omega)
            have h3 := hall _ (List.getElem_mem (show lead (xs.take c) < (xs.take c).length by omega))
            omega
          · omega
        unfold rdNum
        rw [hld, hlen, if_neg (by omega), if_pos (by omega)]
      rw [e2]
      unfold nextF
      rw [if_pos (by rw [hr]; decide)]
      exact ⟨hr, rfl⟩
    · have e : (frB l).take c = numI (l.length : Nat) ++ (l ++ tailS (crcS (frH l))).take (c - (numI (l.length : Nat)).length) := by
        unfold frB
        rw [show frH l = numI (l.length : Nat) ++ l from rfl, List.append_assoc, List.take_append]
        rw [List.take_of_length_le (by omega)]
      unfold nextF
      rw [htl, e, rd_fr l _ h]
      simp only
      rw [if_neg (by simp), if_neg (by omega), if_pos (by omega)]
      exact ⟨rfl, rfl⟩
  unfold openF
  rw [if_neg (fun q => by rw [key.1] at q; simp at q), key.1, key.2]
end Go.Proofs.YtoiaegbmbhgdpaaGreat
