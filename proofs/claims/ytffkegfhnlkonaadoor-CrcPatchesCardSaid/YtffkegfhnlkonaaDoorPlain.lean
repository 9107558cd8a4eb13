namespace CrcPlain

abbrev W := BitVec 32
def P : W := 0xedb88320#32

/-- a step -/
def step (r : W) : W := (r >>> 1) ^^^ (if r.getLsbD 0 = true then P else 0#32)

/-- the step undone -/
def unstep (r : W) : W := if r.getLsbD 31 = true then ((r ^^^ P) <<< 1) ||| 1#32 else r <<< 1

theorem step_bit (r : W) (i : Nat) : (step r).getLsbD i = (r.getLsbD (i + 1) ^^ (r.getLsbD 0 && P.getLsbD i)) := by
  unfold step
  rw [BitVec.getLsbD_xor, BitVec.getLsbD_ushiftRight, Nat.add_comm 1 i]
  cases h : r.getLsbD 0 <;> simp

theorem step_xor (a b : W) : step (a ^^^ b) = step a ^^^ step b := by
  apply BitVec.eq_of_getLsbD_eq
  intro i _
  rw [BitVec.getLsbD_xor, step_bit, step_bit, step_bit, BitVec.getLsbD_xor, BitVec.getLsbD_xor]
  cases a.getLsbD (i+1) <;> cases b.getLsbD (i+1) <;> cases a.getLsbD 0 <;> cases b.getLsbD 0 <;> cases P.getLsbD i <;> rfl

theorem step_zero : step 0#32 = 0#32 := by decide

theorem P_top : P.getLsbD 31 = true := by decide

theorem unstep_bit (r : W) (i : Nat) : (unstep r).getLsbD i = (decide (i < 32) && if i = 0 then r.getLsbD 31 else (r.getLsbD (i - 1) ^^ (r.getLsbD 31 && P.getLsbD (i - 1)))) := by
  unfold unstep
  cases h : r.getLsbD 31
  · rw [if_neg (by simp), BitVec.getLsbD_shiftLeft]
    by_cases e : i = 0
    · subst e; simp
    · have e1 : ¬ i < 1 := by omega
      simp [e, e1]
  · rw [if_pos rfl, BitVec.getLsbD_or, BitVec.getLsbD_shiftLeft, BitVec.getLsbD_one, BitVec.getLsbD_xor]
    by_cases e : i = 0
    · subst e; simp
    · have e1 : ¬ i < 1 := by omega
      simp [e, e1]

theorem unstep_step (r : W) : unstep (step r) = r := by
  apply BitVec.eq_of_getLsbD_eq
  intro i hi
  have top : (step r).getLsbD 31 = r.getLsbD 0 := by
    rw [step_bit, BitVec.getLsbD_of_ge r (31 + 1) (by omega), P_top]; simp
  rw [unstep_bit, top]
  by_cases e : i = 0
  · subst e; simp
  · rw [if_neg e, step_bit, show i - 1 + 1 = i by omega]
    simp only [hi, decide_true, Bool.true_and]
    cases r.getLsbD i <;> cases r.getLsbD 0 <;> cases P.getLsbD (i-1) <;> rfl

theorem step_unstep (r : W) : step (unstep r) = r := by
  apply BitVec.eq_of_getLsbD_eq
  intro i hi
  have low : (unstep r).getLsbD 0 = r.getLsbD 31 := by rw [unstep_bit]; simp
  rw [step_bit, low, unstep_bit]
  by_cases e : i = 31
  · subst e
    rw [P_top]; simp
  · have h1 : i + 1 < 32 := by omega
    rw [if_neg (by omega), Nat.add_sub_cancel]
    simp only [h1, decide_true, Bool.true_and]
    cases r.getLsbD i <;> cases r.getLsbD 31 <;> cases P.getLsbD i <;> rfl

def steps : Nat → W → W
  | 0, r => r
  | n + 1, r => steps n (step r)

def unsteps : Nat → W → W
  | 0, r => r
  | n + 1, r => unsteps n (unstep r)

theorem steps_add (m n : Nat) (r : W) : steps (m + n) r = steps n (steps m r) := by
  induction m generalizing r with
  | zero => simp [steps]
  | succ m ih => rw [Nat.succ_add]; exact ih (step r)

theorem unsteps_add (m n : Nat) (r : W) : unsteps (m + n) r = unsteps n (unsteps m r) := by
  induction m generalizing r with
  | zero => simp [unsteps]
  | succ m ih => rw [Nat.succ_add]; exact ih (unstep r)

theorem steps_succ' (n : Nat) (r : W) : steps (n + 1) r = step (steps n r) := steps_add n 1 r
theorem unsteps_succ' (n : Nat) (r : W) : unsteps (n + 1) r = unstep (unsteps n r) := unsteps_add n 1 r

theorem steps_xor (n : Nat) (a b : W) : steps n (a ^^^ b) = steps n a ^^^ steps n b := by
  induction n generalizing a b with
  | zero => rfl
  | succ n ih => show steps n (step (a ^^^ b)) = _; rw [step_xor, ih]; rfl

theorem steps_zero (n : Nat) : steps n 0#32 = 0#32 := by
  induction n with
  | zero => rfl
  | succ n ih => show steps n (step 0#32) = _; rw [step_zero, ih]

theorem unsteps_steps (n : Nat) (r : W) : unsteps n (steps n r) = r := by
  induction n generalizing r with
  | zero => rfl
  | succ n ih => rw [steps_succ', show n + 1 = 1 + n from Nat.add_comm .., unsteps_add]; show unsteps n (unstep (step _)) = r; rw [unstep_step, ih]

theorem steps_unsteps (n : Nat) (r : W) : steps n (unsteps n r) = r := by
  induction n generalizing r with
  | zero => rfl
  | succ n ih => rw [unsteps_succ', show n + 1 = 1 + n from Nat.add_comm .., steps_add]; show steps n (step (unstep _)) = r; rw [step_unstep, ih]

theorem steps_inj (n : Nat) {a b : W} (h : steps n a = steps n b) : a = b := by
  rw [← unsteps_steps n a, h, unsteps_steps]

theorem unsteps_inj (n : Nat) {a b : W} (h : unsteps n a = unsteps n b) : a = b := by
  rw [← steps_unsteps n a, h, steps_unsteps]

theorem unsteps_xor (n : Nat) (a b : W) : unsteps n (a ^^^ b) = unsteps n a ^^^ unsteps n b := by
  apply steps_inj n
  rw [steps_unsteps, steps_xor, steps_unsteps, steps_unsteps]

/-- the byte's step -/
def byte (r x : W) : W := steps 8 (r ^^^ x)

/-- begun with r, the byte's steps of each byte, in order -/
def run (r : W) (l : List W) : W := l.foldl byte r

def more (s : W) (l : List W) : W := ~~~ (run (~~~ s) l)

theorem run_append (r : W) (l m : List W) : run r (l ++ m) = run (run r l) m := List.foldl_append ..

theorem not_not (s : W) : ~~~ (~~~ s) = s := BitVec.not_not

theorem more_append (s : W) (l m : List W) : more (more s l) m = more s (l ++ m) := by
  unfold more; rw [not_not, run_append]

/-- a shift to the right is a step, where the low bits are nought -/
theorem step_shr (r : W) (h : r.getLsbD 0 = false) : step r = r >>> 1 := by
  unfold step; rw [h]; simp

theorem steps_shl (x : W) (n : Nat) : ∀ k, k ≤ n → (∀ i, 32 - n ≤ i → x.getLsbD i = false) → steps k (x <<< n) = x <<< (n - k) := by
  intro k hk hx
  induction k with
  | zero => rfl
  | succ k ih =>
    rw [steps_succ', ih (by omega)]
    have h0 : (x <<< (n - k)).getLsbD 0 = false := by
      rw [BitVec.getLsbD_shiftLeft]; simp; omega
    rw [step_shr _ h0]
    apply BitVec.eq_of_getLsbD_eq
    intro i hi
    rw [BitVec.getLsbD_ushiftRight, BitVec.getLsbD_shiftLeft, BitVec.getLsbD_shiftLeft]
    by_cases a : i < n - (k + 1)
    · have b : 1 + i < n - k := by omega
      simp [a, b]
    · have b : ¬ 1 + i < n - k := by omega
      have c : 1 + i - (n - k) = i - (n - (k + 1)) := by omega
      simp only [a, b, c, decide_false, Bool.not_false, Bool.and_true, hi, decide_true, Bool.true_and]
      by_cases d : 1 + i < 32
      · simp [d]
      · have : i = 31 := by omega
        subst this
        rw [hx (31 - (n - (k+1))) (by omega)]; simp

/-! four bits by the table -/
def table : List W := [0x00000000#32, 0x1db71064#32, 0x3b6e20c8#32, 0x26d930ac#32, 0x76dc4190#32, 0x6b6b51f4#32, 0x4db26158#32, 0x5005713c#32,
  0xedb88320#32, 0xf00f9344#32, 0xd6d6a3e8#32, 0xcb61b38c#32, 0x9b64c2b0#32, 0x86d3d2d4#32, 0xa00ae278#32, 0xbdbdf21c#32]

theorem table_is : ∀ k : Fin 16, steps 4 (BitVec.ofNat 32 k.val) = table.getD k.val 0#32 := by decide

theorem split4 (r : W) : r = ((r >>> 4) <<< 4) ^^^ (r &&& 15#32) := by
  apply BitVec.eq_of_getLsbD_eq
  intro i hi
  rw [BitVec.getLsbD_xor, BitVec.getLsbD_shiftLeft, BitVec.getLsbD_ushiftRight, BitVec.getLsbD_and]
  by_cases h : i < 4
  · have : (15#32).getLsbD i = true := by
      match i, h with
      | 0, _ => decide
      | 1, _ => decide
      | 2, _ => decide
      | 3, _ => decide
    simp [h, this]
  · have : (15#32).getLsbD i = false := by
      rw [show (15#32 : W) = BitVec.ofNat 32 (2^4 - 1) from rfl, BitVec.getLsbD_ofNat, Nat.testBit_two_pow_sub_one]; simp [h]
    have e : 4 + (i - 4) = i := by omega
    simp only [h, this, hi, e, decide_true, decide_false, Bool.true_and, Bool.not_false, Bool.and_false, Bool.xor_false]

theorem nibble (r : W) : steps 4 r = table.getD (r &&& 15#32).toNat 0#32 ^^^ (r >>> 4) := by
  conv => lhs; rw [split4 r]
  rw [steps_xor, BitVec.xor_comm]
  have hlt : (r &&& 15#32).toNat < 16 := by
    rw [BitVec.toNat_and]
    exact Nat.lt_of_le_of_lt Nat.and_le_right (by decide)
  have h1 := table_is ⟨(r &&& 15#32).toNat, hlt⟩
  simp only [BitVec.ofNat_toNat, BitVec.setWidth_eq] at h1
  have h2 := steps_shl (r >>> 4) 4 4 (Nat.le_refl _) (fun i hi => by
    rw [BitVec.getLsbD_ushiftRight]; exact BitVec.getLsbD_of_ge _ _ (by omega))
  rw [h1, h2, Nat.sub_self, BitVec.shiftLeft_zero]

/-- as the program has it -/
def byteT (r x : W) : W :=
  let r := r ^^^ x
  let r := table.getD (r &&& 15#32).toNat 0#32 ^^^ (r >>> 4)
  table.getD (r &&& 15#32).toNat 0#32 ^^^ (r >>> 4)

theorem byteT_eq (r x : W) : byteT r x = byte r x := by
  unfold byteT byte
  simp only [← nibble]
  rfl

/-! linear -/
theorem byte_xor (r s x y : W) : byte (r ^^^ s) (x ^^^ y) = byte r x ^^^ byte s y := by
  unfold byte
  rw [← steps_xor]
  congr 1
  ac_rfl

theorem run_xor : ∀ (l m : List W) (r s : W), l.length = m.length → run (r ^^^ s) (List.zipWith (· ^^^ ·) l m) = run r l ^^^ run s m := by
  intro l
  induction l with
  | nil => intro m r s h; cases m with
    | nil => rfl
    | cons b m => simp at h
  | cons a l ih => intro m r s h; cases m with
    | nil => simp at h
    | cons b m =>
      show run (byte (r ^^^ s) (a ^^^ b)) (List.zipWith _ l m) = run (byte r a) l ^^^ run (byte s b) m
      rw [byte_xor]
      exact ih m _ _ (by simpa using h)

/-! the product -/
def one : W := 0x80000000#32

/-- p and b behind j rounds -/
def timesTo (a b : W) : Nat → W
  | 0 => 0#32
  | j + 1 => timesTo a b j ^^^ (if a.getLsbD (31 - j) = true then steps j b else 0#32)

def times (a b : W) : W := timesTo a b 32

theorem timesTo_steps (a b : W) (m : Nat) : ∀ j, timesTo a (steps m b) j = steps m (timesTo a b j) := by
  intro j
  induction j with
  | zero => exact (steps_zero m).symm
  | succ j ih =>
    show timesTo a (steps m b) j ^^^ _ = steps m (timesTo a b j ^^^ _)
    rw [ih, steps_xor]
    congr 1
    split
    · rw [← steps_add, ← steps_add, Nat.add_comm]
    · exact (steps_zero m).symm

theorem steps_one : ∀ j : Fin 32, steps j.val one = 1#32 <<< (31 - j.val) := by decide

theorem timesTo_one (a : W) : ∀ j, j ≤ 32 → ∀ i, (timesTo a one j).getLsbD i = (decide (32 - j ≤ i) && a.getLsbD i) := by
  intro j
  induction j with
  | zero =>
    intro _ i
    show (0#32 : W).getLsbD i = _
    by_cases h : 32 - 0 ≤ i
    · rw [BitVec.getLsbD_of_ge a i (by omega)]; simp
    · simp [h]
  | succ j ih =>
    intro hj i
    show (timesTo a one j ^^^ _).getLsbD i = _
    rw [BitVec.getLsbD_xor, ih (by omega)]
    have hs := steps_one ⟨j, by omega⟩
    simp only at hs
    rw [hs]
    by_cases e : i = 31 - j
    · subst e
      have h1 : ¬ 32 - j ≤ 31 - j := by omega
      have h2 : 32 - (j + 1) ≤ 31 - j := by omega
      simp only [h1, h2, decide_true, decide_false, Bool.true_and, Bool.false_and, Bool.false_xor]
      split
      · rename_i h
        rw [h, BitVec.getLsbD_shiftLeft]
        have h4 : 31 - j < 32 := by omega
        simp [h4]
      · rename_i h
        have : a.getLsbD (31 - j) = false := by simpa using h
        rw [this]; simp
    · have hz : (if a.getLsbD (31 - j) = true then (1#32 <<< (31 - j) : W) else 0#32).getLsbD i = false := by
        split
        · rw [BitVec.getLsbD_shiftLeft, BitVec.getLsbD_one]
          by_cases c : i < 31 - j
          · simp [c]
          · have : ¬ i - (31 - j) = 0 := by omega
            simp [this]
        · simp
      rw [hz, Bool.xor_false]
      congr 1
      have : 32 - j ≤ i ↔ 32 - (j + 1) ≤ i := by omega
      simp [this]

theorem times_one (a : W) : times a one = a := by
  apply BitVec.eq_of_getLsbD_eq
  intro i hi
  unfold times
  rw [timesTo_one a 32 (Nat.le_refl _)]
  simp

/-- times x to the power m: m steps -/
theorem times_steps (a : W) (m : Nat) : times a (steps m one) = steps m a := by
  unfold times
  rw [timesTo_steps]
  congr 1
  exact times_one a

/-- the program's loop: what stands behind it, of a, x, n -/
def joinGo : Nat → W → W → Nat → W
  | 0, a, _, _ => a
  | f + 1, a, x, n => if n = 0 then a else joinGo f (if n % 2 = 1 then times a x else a) (times x x) (n / 2)

theorem joinGo_eq : ∀ (f n : Nat) (a : W) (m : Nat), n < 2 ^ f → joinGo f a (steps m one) n = steps (m * n) a := by
  intro f
  induction f with
  | zero => intro n a m h; have : n = 0 := by simpa using h
            subst this; rfl
  | succ f ih =>
    intro n a m h
    show (if n = 0 then a else _) = _
    by_cases e : n = 0
    · rw [if_pos e, e]; rfl
    · rw [if_neg e]
      have hx : times (steps m one) (steps m one) = steps (2 * m) one := by
        rw [times_steps, ← steps_add]; congr 1; omega
      rw [hx]
      have hn : n / 2 < 2 ^ f := by rw [Nat.pow_succ] at h; omega
      by_cases o : n % 2 = 1
      · rw [if_pos o, times_steps, ih (n / 2) _ _ hn, ← steps_add]
        congr 1
        have : n = 2 * (n / 2) + 1 := by omega
        conv => rhs; rw [this]
        rw [Nat.mul_add, Nat.mul_one, Nat.add_comm, ← Nat.mul_assoc, Nat.mul_comm m 2]
      · rw [if_neg o, ih (n / 2) _ _ hn]
        congr 1
        have : n = 2 * (n / 2) := by omega
        conv => rhs; rw [this]
        rw [← Nat.mul_assoc, Nat.mul_comm m 2]

/-! the reference's: what becomes of each bit -/
/-- of a number, by what becomes of its bits: the first k bits -/
def ofTo (t : Nat → W) (r : W) : Nat → W
  | 0 => 0#32
  | k + 1 => if r.getLsbD k = true then ofTo t r k ^^^ t k else ofTo t r k

def low (r : W) (k : Nat) : W := r &&& BitVec.ofNat 32 (2 ^ k - 1)

theorem low_bit (r : W) (k i : Nat) : (low r k).getLsbD i = (decide (i < k) && r.getLsbD i) := by
  unfold low
  rw [BitVec.getLsbD_and, BitVec.getLsbD_ofNat, Nat.testBit_two_pow_sub_one]
  by_cases h : i < 32
  · simp only [h, decide_true, Bool.true_and]; exact Bool.and_comm ..
  · rw [BitVec.getLsbD_of_ge r i (by omega)]; simp

theorem low_succ (r : W) (k : Nat) (hk : k < 32) : low r (k + 1) = if r.getLsbD k = true then low r k ^^^ (1#32 <<< k) else low r k := by
  apply BitVec.eq_of_getLsbD_eq
  intro i hi
  rw [low_bit]
  have hb : (1#32 <<< k : W).getLsbD i = decide (i = k) := by
    rw [BitVec.getLsbD_shiftLeft, BitVec.getLsbD_one]
    by_cases e : i = k
    · subst e; simp [hi]
    · by_cases c : i < k
      · simp [c, e]
      · have : ¬ i - k = 0 := by omega
        simp [this, e]
  by_cases e : i = k
  · subst e
    cases h : r.getLsbD i
    · rw [if_neg (by simp), low_bit, h]; simp
    · rw [if_pos rfl, BitVec.getLsbD_xor, low_bit, hb]; simp
  · have h1 : (decide (i < k + 1)) = decide (i < k) := by
      have : i < k + 1 ↔ i < k := by omega
      simp [this]
    split
    · rw [BitVec.getLsbD_xor, low_bit, hb, h1]; simp [e]
    · rw [low_bit, h1]

theorem ofTo_eq (t : Nat → W) (m : Nat) (ht : ∀ i, i < 32 → t i = steps m (1#32 <<< i)) (r : W) : ∀ k, k ≤ 32 → ofTo t r k = steps m (low r k) := by
  intro k
  induction k with
  | zero =>
    intro _
    have : low r 0 = 0#32 := by unfold low; simp
    rw [this, steps_zero]; rfl
  | succ k ih =>
    intro hk
    rw [low_succ r k (by omega)]
    show (if r.getLsbD k = true then _ else _) = _
    rw [ih (by omega)]
    split
    · rw [steps_xor, ht k (by omega)]
    · rfl

theorem low_all (r : W) : low r 32 = r := by
  apply BitVec.eq_of_getLsbD_eq
  intro i hi
  rw [low_bit]; simp only [hi, decide_true, Bool.true_and]

theorem of_eq (t : Nat → W) (m : Nat) (ht : ∀ i, i < 32 → t i = steps m (1#32 <<< i)) (r : W) : ofTo t r 32 = steps m r := by
  rw [ofTo_eq t m ht r 32 (Nat.le_refl _), low_all]

/-! patching -/
/-- four bytes of a number, the lowest first -/
def byteAt (x : W) (i : Nat) : W := (x >>> (8 * i)) &&& 255#32

theorem steps8_shl8 (x : W) (h : ∀ i, 24 ≤ i → x.getLsbD i = false) : steps 8 (x <<< 8) = x := by
  have := steps_shl x 8 8 (Nat.le_refl _) h
  rw [this, Nat.sub_self, BitVec.shiftLeft_zero]

theorem mask_bit (i : Nat) : (255#32).getLsbD i = decide (i < 8) := by
  rw [show (255#32 : W) = BitVec.ofNat 32 (2^8 - 1) from rfl, BitVec.getLsbD_ofNat, Nat.testBit_two_pow_sub_one]
  by_cases h : i < 8
  · have : i < 32 := by omega
    simp [h, this]
  · simp [h]

theorem split8 (x : W) : x = ((x >>> 8) <<< 8) ^^^ (x &&& 255#32) := by
  apply BitVec.eq_of_getLsbD_eq
  intro i hi
  rw [BitVec.getLsbD_xor, BitVec.getLsbD_shiftLeft, BitVec.getLsbD_ushiftRight, BitVec.getLsbD_and, mask_bit]
  by_cases h : i < 8
  · simp [h]
  · have e : 8 + (i - 8) = i := by omega
    simp only [h, hi, e, decide_true, decide_false, Bool.true_and, Bool.not_false, Bool.and_false, Bool.xor_false]

theorem word_split (x : W) (n : Nat) (r : W) : steps (n + 8) (r ^^^ x) = steps n (byte r (x &&& 255#32) ^^^ (x >>> 8)) := by
  rw [Nat.add_comm, steps_add]
  congr 1
  conv => lhs; rw [split8 x]
  have h := steps8_shl8 (x >>> 8) (fun i hi => by rw [BitVec.getLsbD_ushiftRight]; exact BitVec.getLsbD_of_ge _ _ (by omega))
  have : r ^^^ (x >>> 8 <<< 8 ^^^ x &&& 255#32) = (r ^^^ (x &&& 255#32)) ^^^ (x >>> 8 <<< 8) := by ac_rfl
  rw [this, steps_xor, h]; rfl

theorem shr_shr (x : W) (a b : Nat) : x >>> a >>> b = x >>> (a + b) := (BitVec.shiftRight_add ..).symm

/-- four bytes, in order, are 32 steps of the number that they make -/
theorem run_word (r x : W) : run r [byteAt x 0, byteAt x 1, byteAt x 2, byteAt x 3] = steps 32 (r ^^^ x) := by
  have h0 : byteAt x 0 = x &&& 255#32 := by simp [byteAt]
  have h1 : byteAt x 1 = (x >>> 8) &&& 255#32 := rfl
  have h2 : byteAt x 2 = (x >>> 8 >>> 8) &&& 255#32 := by rw [shr_shr]; rfl
  have h3 : byteAt x 3 = (x >>> 8 >>> 8 >>> 8) &&& 255#32 := by rw [shr_shr, shr_shr]; rfl
  have z : x >>> 8 >>> 8 >>> 8 >>> 8 = 0#32 := by
    rw [shr_shr, shr_shr, shr_shr]
    apply BitVec.eq_of_getLsbD_eq
    intro i hi
    rw [BitVec.getLsbD_ushiftRight, BitVec.getLsbD_of_ge _ _ (by omega)]; simp
  have w1 := word_split x 24 r
  have w2 := word_split (x >>> 8) 16 (byte r (x &&& 255#32))
  have w3 := word_split (x >>> 8 >>> 8) 8 (byte (byte r (x &&& 255#32)) (x >>> 8 &&& 255#32))
  have w4 := word_split (x >>> 8 >>> 8 >>> 8) 0 (byte (byte (byte r (x &&& 255#32)) (x >>> 8 &&& 255#32)) (x >>> 8 >>> 8 &&& 255#32))
  rw [z, BitVec.xor_zero] at w4
  rw [h0, h1, h2, h3]
  exact (w1.trans (w2.trans (w3.trans w4))).symm

/-- back through a row, the last byte first -/
def unbyte (r x : W) : W := unsteps 8 r ^^^ x

def unrun (r : W) (l : List W) : W := l.foldr (fun x r => unbyte r x) r

theorem unbyte_byte (r x : W) : unbyte (byte r x) x = r := by
  unfold unbyte byte
  rw [unsteps_steps, BitVec.xor_assoc, BitVec.xor_self, BitVec.xor_zero]

theorem byte_unbyte (r x : W) : byte (unbyte r x) x = r := by
  unfold unbyte byte
  rw [BitVec.xor_assoc, BitVec.xor_self, BitVec.xor_zero, steps_unsteps]

theorem run_unrun (r : W) (l : List W) : run (unrun r l) l = r := by
  induction l generalizing r with
  | nil => rfl
  | cons a l ih =>
    show run (byte (unbyte (unrun r l) a) a) l = r
    rw [byte_unbyte, ih]

theorem unrun_run (r : W) (l : List W) : unrun (run r l) l = r := by
  induction l generalizing r with
  | nil => rfl
  | cons a l ih =>
    show unbyte (unrun (run (byte r a) l) l) a = r
    rw [ih, unbyte_byte]

theorem run_inj {r s : W} {l : List W} (h : run r l = run s l) : r = s := by
  rw [← unrun_run r l, h, unrun_run]

/-- the number whose bytes stand in the gap -/
def gap (from_ to_ : W) : W := unsteps 32 to_ ^^^ from_

theorem run_gap (from_ to_ : W) : run from_ [byteAt (gap from_ to_) 0, byteAt (gap from_ to_) 1, byteAt (gap from_ to_) 2, byteAt (gap from_ to_) 3] = to_ := by
  rw [run_word]
  unfold gap
  have : from_ ^^^ (unsteps 32 to_ ^^^ from_) = unsteps 32 to_ := by
    rw [BitVec.xor_comm (unsteps 32 to_), ← BitVec.xor_assoc, BitVec.xor_self, BitVec.zero_xor]
  rw [this, steps_unsteps]

end CrcPlain
