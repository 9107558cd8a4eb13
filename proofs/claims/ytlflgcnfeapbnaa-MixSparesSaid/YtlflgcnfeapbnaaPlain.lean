namespace MixPlain

abbrev U := BitVec 64
def M1 : U := 0xBF58476D1CE4E5B9#64
def M2 : U := 0x94D049BB133111EB#64
def G : U := 0x9E3779B97F4A7C15#64

/-- exclusive or with itself moved -/
def mv (x : U) (k : Nat) : U := x ^^^ (x >>> k)

def hash (x : U) : U := mv (mv (mv x 30 * M1) 27 * M2) 31

/-- undone, for 22 ≤ k (two turns suffice) -/
def unmv (y : U) (k : Nat) : U := y ^^^ ((y ^^^ (y >>> k)) >>> k)

theorem unmv_mv (x : U) (k : Nat) (h : 22 ≤ k) : unmv (mv x k) k = x := by
  unfold unmv mv
  ext i hi
  simp only [BitVec.getElem_xor, BitVec.getElem_ushiftRight, BitVec.getLsbD_xor, BitVec.getLsbD_ushiftRight]
  have h3 : x.getLsbD (k + (k + (k + i))) = false := BitVec.getLsbD_of_ge _ _ (by omega)
  rw [h3]
  cases x[i] <;> cases x.getLsbD (k+i) <;> cases x.getLsbD (k+(k+i)) <;> rfl

theorem mv_unmv (x : U) (k : Nat) (h : 22 ≤ k) : mv (unmv x k) k = x := by
  unfold unmv mv
  ext i hi
  simp only [BitVec.getElem_xor, BitVec.getElem_ushiftRight, BitVec.getLsbD_xor, BitVec.getLsbD_ushiftRight]
  have h3 : x.getLsbD (k + (k + (k + i))) = false := BitVec.getLsbD_of_ge _ _ (by omega)
  rw [h3]
  rw [← BitVec.getLsbD_eq_getElem hi]
  cases x.getLsbD i <;> cases x.getLsbD (k+i) <;> cases x.getLsbD (k+(k+i)) <;> rfl

/-- the number that times an odd one is 1 -/
def turnStep (odd x : U) : U := x * (2#64 - odd * x)
def turned (odd : U) : U := turnStep odd (turnStep odd (turnStep odd (turnStep odd (turnStep odd odd))))

theorem turned_M1 : M1 * turned M1 = 1#64 := by decide
theorem turned_M2 : M2 * turned M2 = 1#64 := by decide

def back (y : U) : U := unmv (unmv (unmv y 31 * turned M2) 27 * turned M1) 30

theorem back_hash (x : U) : back (hash x) = x := by
  unfold back hash
  rw [unmv_mv _ _ (by decide), BitVec.mul_assoc, turned_M2, BitVec.mul_one, unmv_mv _ _ (by decide), BitVec.mul_assoc, turned_M1, BitVec.mul_one, unmv_mv _ _ (by decide)]

theorem hash_back (y : U) : hash (back y) = y := by
  unfold back hash
  rw [mv_unmv _ _ (by decide), BitVec.mul_assoc, BitVec.mul_comm (turned M1), turned_M1, BitVec.mul_one, mv_unmv _ _ (by decide), BitVec.mul_assoc, BitVec.mul_comm (turned M2), turned_M2, BitVec.mul_one, mv_unmv _ _ (by decide)]

/-! the reference: bit by bit -/
def underStep (y : U) (k bit : Nat) (x : U) : U :=
  x ||| ((if bit + k < 64 then ((y >>> bit) &&& 1#64) ^^^ ((x >>> (bit + k)) &&& 1#64) else (y >>> bit) &&& 1#64) <<< bit)

/-- what stands behind n rounds, from bit 63 down -/
def underTo (y : U) (k : Nat) : Nat → U
  | 0 => 0#64
  | n + 1 => underStep y k (63 - n) (underTo y k n)

theorem and_one_getLsbD (x : U) (i : Nat) : (x &&& 1#64).getLsbD i = (decide (i = 0) && x.getLsbD 0) := by
  rw [BitVec.getLsbD_and]
  by_cases h : i = 0
  · subst h; simp
  · have : (1#64).getLsbD i = false := by
      rw [BitVec.getLsbD_one]; simp; omega
    simp [this, h]

theorem underStep_bit (y : U) (k bit : Nat) (x : U) (j : Nat) :
    (underStep y k bit x).getLsbD j = (x.getLsbD j || (decide (j < 64) && decide (j = bit) && (y.getLsbD bit ^^ (decide (bit + k < 64) && x.getLsbD (bit + k))))) := by
  unfold underStep
  rw [BitVec.getLsbD_or, BitVec.getLsbD_shiftLeft]
  by_cases h : bit + k < 64
  · rw [if_pos h, BitVec.getLsbD_xor, and_one_getLsbD, and_one_getLsbD, BitVec.getLsbD_ushiftRight, BitVec.getLsbD_ushiftRight]
    by_cases hj : j < 64 <;> by_cases hb : j < bit <;> by_cases he : j = bit <;> simp [hj, hb, he, h] <;> (try omega)
    all_goals (first | (have : j - bit ≠ 0 := by omega); simp [this] | skip)
  · rw [if_neg h, and_one_getLsbD, BitVec.getLsbD_ushiftRight]
    by_cases hj : j < 64 <;> by_cases hb : j < bit <;> by_cases he : j = bit <;> simp [hj, hb, he, h] <;> (try omega)
    all_goals (first | (have : j - bit ≠ 0 := by omega); simp [this] | skip)

theorem underTo_bits (y : U) (k : Nat) (hk : 0 < k) (n : Nat) (hn : n ≤ 64) :
    (∀ j, j < 64 - n → (underTo y k n).getLsbD j = false) ∧
    (∀ j, 64 - n ≤ j → j < 64 → (underTo y k n).getLsbD j = (y.getLsbD j ^^ (underTo y k n).getLsbD (j + k))) := by
  induction n with
  | zero => exact ⟨fun j _ => by simp [underTo], fun j h1 h2 => by omega⟩
  | succ n ih =>
    obtain ⟨h1, h2⟩ := ih (by omega)
    have top : ∀ j, 64 ≤ j → (underTo y k n).getLsbD j = false := fun j h => BitVec.getLsbD_of_ge _ _ h
    refine ⟨fun j hj => ?_, fun j hj hj2 => ?_⟩
    · show (underStep y k (63 - n) (underTo y k n)).getLsbD j = false
      rw [underStep_bit, h1 j (by omega)]
      have : ¬ j = 63 - n := by omega
      simp [this]
    · show (underStep y k (63 - n) (underTo y k n)).getLsbD j = (y.getLsbD j ^^ (underStep y k (63 - n) (underTo y k n)).getLsbD (j + k))
      rw [underStep_bit, underStep_bit]
      have e2 : ¬ j + k = 63 - n := by omega
      by_cases e : j = 63 - n
      · subst e
        rw [h1 _ (by omega)]
        by_cases hb : 63 - n + k < 64
        · have e3 : ¬ k = 0 := by omega
          have e4 : ∀ a b : Bool, (false || (true && true && (a ^^ (true && b)))) = (a ^^ (b || (true && false && (a ^^ (true && b))))) := by decide
          simp only [hb, e2, hj2, decide_true, decide_false]
          exact e4 _ _
        · have := top (63 - n + k) (by omega)
          simp [hb, this, hj2]
      · rw [h2 j (by omega) hj2]
        simp [e, e2]

theorem mv_underTo (y : U) (k : Nat) (hk : 0 < k) : mv (underTo y k 64) k = y := by
  obtain ⟨_, h⟩ := underTo_bits y k hk 64 (by omega)
  unfold mv
  apply BitVec.eq_of_getLsbD_eq
  intro i hi
  rw [BitVec.getLsbD_xor, BitVec.getLsbD_ushiftRight, h i (by omega) hi, Nat.add_comm k i]
  cases (underTo y k 64).getLsbD (i + k) <;> simp

theorem underTo_eq (y : U) (k : Nat) (hk : 22 ≤ k) : underTo y k 64 = unmv y k := by
  rw [← unmv_mv (underTo y k 64) k hk, mv_underTo y k (by omega)]

def overStep (y odd : U) (bit : Nat) (x : U) : U :=
  if ((y - x * odd) >>> bit) &&& 1#64 = 1#64 then x ||| (1#64 <<< bit) else x

def overTo (y odd : U) : Nat → U
  | 0 => 0#64
  | n + 1 => overStep y odd n (overTo y odd n)

theorem overTo_high (y odd : U) (n : Nat) : ∀ j, n ≤ j → (overTo y odd n).getLsbD j = false := by
  induction n with
  | zero => intro j _; simp [overTo]
  | succ n ih =>
    intro j hj
    show (overStep y odd n (overTo y odd n)).getLsbD j = false
    unfold overStep
    have h1 := ih j (by omega)
    split
    · rw [BitVec.getLsbD_or, h1, BitVec.getLsbD_shiftLeft, BitVec.getLsbD_one]
      have : ¬ j - n = 0 := by omega
      simp [this]
    · exact h1

theorem and_one_eq (d : U) : (d &&& 1#64 = 1#64) ↔ d.getLsbD 0 = true := by
  constructor
  · intro h
    have := congrArg (fun x : U => x.getLsbD 0) h
    simpa [and_one_getLsbD] using this
  · intro h
    apply BitVec.eq_of_getLsbD_eq
    intro i hi
    rw [and_one_getLsbD, h, BitVec.getLsbD_one]
    by_cases e : i = 0 <;> simp [e]

theorem even_half (q : U) (h : q.getLsbD 0 = false) : q = (q >>> 1) <<< 1 := by
  apply BitVec.eq_of_getLsbD_eq
  intro i hi
  rw [BitVec.getLsbD_shiftLeft, BitVec.getLsbD_ushiftRight]
  by_cases e : i = 0
  · subst e; rw [h]; simp
  · have e1 : ¬ i < 1 := by omega
    have e2 : 1 + (i - 1) = i := by omega
    simp [hi, e1, e2]

theorem sub_low (q odd : U) (hq : q.getLsbD 0 = true) (ho : odd.getLsbD 0 = true) : (q - odd).getLsbD 0 = false := by
  have a : q.toNat % 2 = 1 := by
    have := hq; rw [BitVec.getLsbD, Nat.testBit_zero] at this; simpa using this
  have b : odd.toNat % 2 = 1 := by
    have := ho; rw [BitVec.getLsbD, Nat.testBit_zero] at this; simpa using this
  rw [BitVec.getLsbD, Nat.testBit_zero, BitVec.toNat_sub]
  have h1 := q.isLt
  have h2 := odd.isLt
  have : ((2 ^ 64 - odd.toNat + q.toNat) % 2 ^ 64) % 2 = 0 := by omega
  simp [this]

theorem sub_sub' (a b c : U) : a - (b + c) = a - b - c := by
  rw [BitVec.sub_eq_add_neg, BitVec.sub_eq_add_neg, BitVec.sub_eq_add_neg, BitVec.neg_add, BitVec.sub_eq_add_neg, BitVec.add_assoc]

theorem overTo_bits (y odd : U) (ho : odd.getLsbD 0 = true) (n : Nat) (hn : n ≤ 64) :
    ∃ q : U, y - overTo y odd n * odd = q <<< n := by
  induction n with
  | zero => exact ⟨y, by simp [overTo]⟩
  | succ n ih =>
    obtain ⟨q, hq⟩ := ih (by omega)
    have hbit : ((y - overTo y odd n * odd) >>> n &&& 1#64 = 1#64) ↔ q.getLsbD 0 = true := by
      rw [hq, and_one_eq, BitVec.getLsbD_ushiftRight, BitVec.getLsbD_shiftLeft]
      have : n < 64 := by omega
      simp [this]
    have hs : ∀ r : U, r.getLsbD 0 = false → r <<< n = (r >>> 1) <<< (n + 1) := by
      intro r hr
      conv => lhs; rw [even_half r hr]
      rw [← BitVec.shiftLeft_add, Nat.add_comm]
    by_cases c : q.getLsbD 0 = true
    · refine ⟨(q - odd) >>> 1, ?_⟩
      show y - overStep y odd n (overTo y odd n) * odd = _
      unfold overStep
      rw [if_pos (hbit.2 c)]
      have hdis : overTo y odd n &&& (1#64 <<< n) = 0#64 := by
        apply BitVec.eq_of_getLsbD_eq
        intro i hi
        rw [BitVec.getLsbD_and, BitVec.getLsbD_shiftLeft, BitVec.getLsbD_one]
        by_cases e : n ≤ i
        · rw [overTo_high y odd n i e]; simp
        · have : i < n := by omega
          simp [this]
      rw [← BitVec.add_eq_or_of_and_eq_zero _ _ hdis, BitVec.add_mul, sub_sub', hq, ← hs _ (sub_low q odd c ho)]
      rw [BitVec.shiftLeft_eq_mul_twoPow, BitVec.shiftLeft_eq_mul_twoPow, BitVec.shiftLeft_eq_mul_twoPow, BitVec.one_mul, BitVec.sub_eq_add_neg, BitVec.sub_eq_add_neg, BitVec.add_mul, BitVec.neg_mul, BitVec.mul_comm odd]
    · refine ⟨q >>> 1, ?_⟩
      show y - overStep y odd n (overTo y odd n) * odd = _
      unfold overStep
      rw [if_neg (fun h => c (hbit.1 h)), hq]
      exact hs q (by simpa using c)

theorem over_mul (y odd : U) (ho : odd.getLsbD 0 = true) : overTo y odd 64 * odd = y := by
  obtain ⟨q, hq⟩ := overTo_bits y odd ho 64 (by omega)
  have h0 : q <<< 64 = 0#64 := by
    apply BitVec.eq_of_getLsbD_eq
    intro i hi
    rw [BitVec.getLsbD_shiftLeft]; simp [hi]
  rw [h0] at hq
  have := congrArg (· + overTo y odd 64 * odd) hq
  simp only [BitVec.sub_add_cancel, BitVec.zero_add] at this
  exact this.symm

theorem over_eq (y odd inv : U) (ho : odd.getLsbD 0 = true) (hi : odd * inv = 1#64) : overTo y odd 64 = y * inv := by
  have := over_mul y odd ho
  calc overTo y odd 64 = overTo y odd 64 * (odd * inv) := by rw [hi, BitVec.mul_one]
    _ = y * inv := by rw [← BitVec.mul_assoc, this]

def refBack (y : U) : U := underTo (overTo (underTo (overTo (underTo y 31 64) M2 64) 27 64) M1 64) 30 64

theorem refBack_eq (y : U) : refBack y = back y := by
  unfold refBack back
  rw [underTo_eq _ _ (by decide), over_eq _ _ _ (by decide) turned_M2, underTo_eq _ _ (by decide), over_eq _ _ _ (by decide) turned_M1, underTo_eq _ _ (by decide)]
end MixPlain
