import Ieee.Arith
namespace FloatPlain
open Ieee

/-- the magnitude of a rung, in units of 2^-1074 -/
def val (r : Nat) : Nat := if r < 4503599627370496 then r else (4503599627370496 + r % 4503599627370496) * 2 ^ (r / 4503599627370496 - 1)

def inf : Nat := 9218868437227405312

theorem dbl_binade : double.binade = 4503599627370496 := by decide
theorem dbl_inf : double.infRung = 9218868437227405312 := by decide
theorem dbl_sign : double.signWeight = 9223372036854775808 := by decide
theorem dbl_least : double.leastPlace = -1074 := by decide

theorem val_succ (r : Nat) : val r < val (r + 1) := by
  unfold val
  by_cases h : r + 1 < 4503599627370496
  · rw [if_pos (by omega), if_pos h]; omega
  · by_cases h2 : r < 4503599627370496
    · have : r = 4503599627370495 := by omega
      subst this; decide
    · rw [if_neg h2, if_neg h]
      by_cases c : r % 4503599627370496 = 4503599627370495
      · have e1 : (r + 1) % 4503599627370496 = 0 := by omega
        have e2 : (r + 1) / 4503599627370496 - 1 = (r / 4503599627370496 - 1) + 1 := by omega
        rw [e1, e2, c, Nat.pow_succ]
        have : 0 < 2 ^ (r / 4503599627370496 - 1) := Nat.two_pow_pos _
        omega
      · have e1 : (r + 1) % 4503599627370496 = r % 4503599627370496 + 1 := by omega
        have e2 : (r + 1) / 4503599627370496 = r / 4503599627370496 := by omega
        rw [e1, e2]
        exact Nat.mul_lt_mul_of_pos_right (by omega) (Nat.two_pow_pos _)

theorem val_lt {r s : Nat} (h : r < s) : val r < val s := by
  induction s with
  | zero => omega
  | succ s ih =>
    by_cases e : r = s
    · subst e; exact val_succ r
    · exact Nat.lt_trans (ih (by omega)) (val_succ s)

theorem val_le {r s : Nat} (h : r ≤ s) : val r ≤ val s := by
  rcases Nat.lt_or_eq_of_le h with h | h
  · exact Nat.le_of_lt (val_lt h)
  · rw [h]; exact Nat.le_refl _

theorem le_of_val {r s : Nat} (h : val r ≤ val s) : r ≤ s := by
  rcases Nat.lt_or_ge s r with c | c
  · have := val_lt c; omega
  · exact c

theorem val_inj {r s : Nat} (h : val r = val s) : r = s :=
  Nat.le_antisymm (le_of_val (by omega)) (le_of_val (by omega))

theorem val_zero : val 0 = 0 := rfl

/-! rounding to the nearest whole number, ties to even: between its neighbours -/
theorem cut_even (neg : Bool) (n d : Nat) : ∃ b : Bool, Toward.even.cut neg n d = n / 2 ^ d + b.toNat ∧ (b = true → 0 < n % 2 ^ d) := by
  unfold Toward.cut
  dsimp only
  rw [Nat.one_shiftLeft]
  by_cases h : d ≤ n.log2 + 2
  · rw [Nat.min_eq_left h]
    have hp : 0 < 2 ^ d := Nat.two_pow_pos _
    refine ⟨_, rfl, fun hb => ?_⟩
    rcases Nat.eq_zero_or_pos (n % 2 ^ d) with z | z
    · rw [z] at hb
      simp only [Nat.mul_zero, Nat.not_lt_zero, decide_false, Bool.false_or, Bool.and_eq_true, beq_iff_eq] at hb
      omega
    · exact z
  · rw [Nat.min_eq_right (by omega)]
    have h1 : n < 2 ^ (n.log2 + 1) := Nat.lt_log2_self
    have h2 : 2 ^ (n.log2 + 2) = 2 * 2 ^ (n.log2 + 1) := by rw [Nat.pow_succ]; omega
    have h3 : 2 ^ (n.log2 + 2) ≤ 2 ^ d := Nat.pow_le_pow_right (by omega) (by omega)
    have z1 : n / 2 ^ (n.log2 + 2) = 0 := Nat.div_eq_of_lt (by omega)
    have z2 : n % 2 ^ (n.log2 + 2) = n := Nat.mod_eq_of_lt (by omega)
    have z3 : n / 2 ^ d = 0 := Nat.div_eq_of_lt (by omega)
    refine ⟨false, ?_, fun h => by cases h⟩
    rw [z1, z2, z3]
    have a1 : ¬ 2 ^ (n.log2 + 2) < 2 * n := by omega
    have a2 : ¬ 2 ^ (n.log2 + 2) = 2 * n := by omega
    have a3 : (2 ^ (n.log2 + 2) == 2 * n) = false := by simpa using a2
    rw [a3]
    simp [a1]

theorem cut_le (neg : Bool) (n d q : Nat) (h : n ≤ q * 2 ^ d) : Toward.even.cut neg n d ≤ q := by
  obtain ⟨b, hb, hz⟩ := cut_even neg n d
  rw [hb]
  have hp : 0 < 2 ^ d := Nat.two_pow_pos _
  have h1 : n / 2 ^ d ≤ q := by
    have := Nat.div_le_div_right (c := 2 ^ d) h
    rwa [Nat.mul_div_cancel _ hp] at this
  cases b
  · exact h1
  · have z := hz rfl
    have : n / 2 ^ d ≠ q := by
      intro e
      have := Nat.div_add_mod n (2 ^ d)
      rw [e, Nat.mul_comm] at this
      omega
    show _ + 1 ≤ q
    omega

theorem le_cut (neg : Bool) (n d q : Nat) (h : q * 2 ^ d ≤ n) : q ≤ Toward.even.cut neg n d := by
  obtain ⟨b, hb, _⟩ := cut_even neg n d
  rw [hb]
  have : q ≤ n / 2 ^ d := (Nat.le_div_iff_mul_le (Nat.two_pow_pos _)).2 h
  omega

/-! the nearest rung -/
/-- the place of the last digit that is kept -/
def last (m : Nat) (p : Int) : Int := max (p + m.log2 - 52) (-1074)

def kept (m : Nat) (p : Int) : Nat := Toward.even.cut false (m <<< (p - last m p).toNat) (last m p - p).toNat

def rnd (m : Nat) (p : Int) : Nat := if m = 0 then 0 else min ((last m p + 1074).toNat * 4503599627370496 + kept m p) inf

theorem cut_neg (neg : Bool) (n d : Nat) : Toward.even.cut neg n d = Toward.even.cut false n d := by
  unfold Toward.cut; rfl

theorem nearest_eq (neg : Bool) (m : Nat) (p : Int) : double.nearest neg m p = double.word neg (rnd m p) := by
  unfold Format.nearest rnd
  by_cases h : m = 0
  · rw [if_pos h, if_pos h]
  · rw [if_neg h, if_neg h]
    dsimp only
    rw [cut_neg]
    unfold kept last
    rw [dbl_binade, dbl_inf, dbl_least]
    show double.word neg (min ((max (p + ↑m.log2 - ((52 : Nat) : Int)) (-1074) - -1074).toNat * _ + _) _) = _
    rw [show (max (p + ↑m.log2 - ((52 : Nat) : Int)) (-1074) - -1074) = (max (p + ↑m.log2 - 52) (-1074) + 1074) from by omega]
    rfl

theorem word_false (r : Nat) : double.word false r = r := rfl
theorem word_true (r : Nat) : double.word true r = 9223372036854775808 + r := by
  unfold Format.word; rw [dbl_sign]; rfl

theorem kept_le (m : Nat) (p : Int) : kept m p ≤ 9007199254740992 := by
  unfold kept
  apply cut_le
  rw [Nat.shiftLeft_eq]
  have h1 : m < 2 ^ (m.log2 + 1) := Nat.lt_log2_self
  have hl : p + m.log2 - 52 ≤ last m p := by unfold last; omega
  have e : (9007199254740992 : Nat) = 2 ^ 53 := by decide
  rw [e, ← Nat.pow_add]
  have h2 : m * 2 ^ (p - last m p).toNat ≤ 2 ^ (m.log2 + 1) * 2 ^ (p - last m p).toNat := Nat.mul_le_mul_right _ (by omega)
  rw [← Nat.pow_add] at h2
  exact Nat.le_trans h2 (Nat.pow_le_pow_right (by omega) (by omega))

theorem le_kept (m : Nat) (p : Int) (hm : m ≠ 0) (hl : -1074 < last m p) : 4503599627370496 ≤ kept m p := by
  unfold kept
  apply le_cut
  rw [Nat.shiftLeft_eq]
  have h1 : 2 ^ m.log2 ≤ m := Nat.log2_self_le hm
  have hl : p + m.log2 - 52 = last m p := by unfold last at hl ⊢; omega
  have e : (4503599627370496 : Nat) = 2 ^ 52 := by decide
  rw [e, ← Nat.pow_add]
  have h2 : 2 ^ m.log2 * 2 ^ (p - last m p).toNat ≤ m * 2 ^ (p - last m p).toNat := Nat.mul_le_mul_right _ h1
  rw [← Nat.pow_add] at h2
  exact Nat.le_trans (Nat.pow_le_pow_right (by omega) (by omega)) h2

theorem two53 : (2 : Nat) ^ 53 = 9007199254740992 := by decide
theorem two52 : (2 : Nat) ^ 52 = 4503599627370496 := by decide

theorem val_made (l k : Nat) (hk : k ≤ 9007199254740992) (hl : l = 0 ∨ 4503599627370496 ≤ k) : val (l * 4503599627370496 + k) = k * 2 ^ l := by
  unfold val
  by_cases h : l * 4503599627370496 + k < 4503599627370496
  · have : l = 0 := by omega
    subst this
    rw [if_pos h]; simp
  · rw [if_neg h]
    by_cases e : k = 9007199254740992
    · subst e
      have e1 : (l * 4503599627370496 + 9007199254740992) % 4503599627370496 = 0 := by omega
      have e2 : (l * 4503599627370496 + 9007199254740992) / 4503599627370496 - 1 = l + 1 := by omega
      rw [e1, e2, Nat.pow_succ]
      generalize 2 ^ l = t
      omega
    · have e1 : (l * 4503599627370496 + k) % 4503599627370496 = k - 4503599627370496 := by omega
      have e2 : (l * 4503599627370496 + k) / 4503599627370496 - 1 = l := by omega
      rw [e1, e2, Nat.add_sub_cancel' (by omega)]

/-- a rung's magnitude: fewer than 54 digits, at a place -/
theorem val_form (r : Nat) : ∃ c q, val r = c * 2 ^ q ∧ c < 9007199254740992 ∧ (q = 0 ∨ 4503599627370496 ≤ c) ∧ q = r / 4503599627370496 - 1 := by
  unfold val
  by_cases h : r < 4503599627370496
  · rw [if_pos h]; exact ⟨r, 0, by simp, by omega, Or.inl rfl, by omega⟩
  · rw [if_neg h]; exact ⟨_, _, rfl, by omega, Or.inr (by omega), rfl⟩

theorem pow_cancel (m Q a b x y : Nat) (h : m * 2 ^ a ≤ Q * 2 ^ b) (hx : a + y = b + x) (hxy : x = 0 ∨ y = 0) : m * 2 ^ x ≤ Q * 2 ^ y := by
  rcases hxy with e | e
  · subst e
    have hb : b = a + y := by omega
    rw [hb, Nat.pow_add, Nat.mul_comm (2 ^ a), ← Nat.mul_assoc] at h
    have := Nat.le_of_mul_le_mul_right h (Nat.two_pow_pos a)
    simpa using this
  · subst e
    have ha : a = b + x := by omega
    rw [ha, Nat.pow_add, Nat.mul_comm (2 ^ b), ← Nat.mul_assoc] at h
    have := Nat.le_of_mul_le_mul_right h (Nat.two_pow_pos b)
    simpa using this

theorem last_ge (m : Nat) (p : Int) : -1074 ≤ last m p := by unfold last; omega

/-- what 'rnd' makes before it is held below infinity -/
def made (m : Nat) (p : Int) : Nat := (last m p + 1074).toNat * 4503599627370496 + kept m p

theorem val_made' (m : Nat) (p : Int) (hm : m ≠ 0) : val (made m p) = kept m p * 2 ^ (last m p + 1074).toNat := by
  apply val_made _ _ (kept_le m p)
  by_cases h : -1074 < last m p
  · exact Or.inr (le_kept m p hm h)
  · have := last_ge m p
    left; omega

theorem made_le (m : Nat) (p : Int) (B k : Nat) (hm : m ≠ 0) (hB : 1074 ≤ B) (hp : -(B : Int) ≤ p) (h : m * 2 ^ (p + B).toNat ≤ val k * 2 ^ (B - 1074)) : made m p ≤ k := by
  apply le_of_val
  rw [val_made' m p hm]
  obtain ⟨c, q, hv, hc, hq, _⟩ := val_form k
  have hlg := last_ge m p
  rw [hv] at h ⊢
  by_cases hql : (last m p + 1074).toNat ≤ q
  · obtain ⟨d, rfl⟩ := Nat.le.dest hql
    rw [Nat.add_comm, Nat.pow_add, ← Nat.mul_assoc]
    apply Nat.mul_le_mul_right
    unfold kept
    apply cut_le
    rw [Nat.shiftLeft_eq]
    refine pow_cancel _ _ (p + B).toNat (last m p + B).toNat _ _ ?_ (by omega) (by omega)
    refine Nat.le_trans h (Nat.le_of_eq ?_)
    rw [Nat.mul_assoc, Nat.mul_assoc, ← Nat.pow_add, ← Nat.pow_add]
    rw [show (last m p + 1074).toNat + d + (B - 1074) = d + (last m p + B).toNat from by omega]
  · exfalso
    have hl : p + m.log2 - 52 = last m p := by unfold last at hql ⊢; omega
    have h1 : 2 ^ m.log2 ≤ m := Nat.log2_self_le hm
    have h2 : 2 ^ m.log2 * 2 ^ (p + B).toNat ≤ m * 2 ^ (p + B).toNat := Nat.mul_le_mul_right _ h1
    rw [← Nat.pow_add] at h2
    have h3 : c * 2 ^ q * 2 ^ (B - 1074) < 2 ^ 53 * 2 ^ q * 2 ^ (B - 1074) := by
      apply Nat.mul_lt_mul_of_pos_right _ (Nat.two_pow_pos _)
      exact Nat.mul_lt_mul_of_pos_right (by rw [two53]; exact hc) (Nat.two_pow_pos _)
    rw [← Nat.pow_add, ← Nat.pow_add] at h3
    have h4 : 2 ^ (53 + q + (B - 1074)) ≤ 2 ^ (m.log2 + (p + B).toNat) := Nat.pow_le_pow_right (by omega) (by omega)
    omega

theorem le_made (m : Nat) (p : Int) (B k : Nat) (hm : m ≠ 0) (hB : 1074 ≤ B) (hp : -(B : Int) ≤ p) (h : val k * 2 ^ (B - 1074) ≤ m * 2 ^ (p + B).toNat) : k ≤ made m p := by
  apply le_of_val
  rw [val_made' m p hm]
  obtain ⟨c, q, hv, hc, hq, _⟩ := val_form k
  have hlg := last_ge m p
  rw [hv] at h ⊢
  by_cases hql : (last m p + 1074).toNat ≤ q
  · obtain ⟨d, rfl⟩ := Nat.le.dest hql
    rw [Nat.add_comm, Nat.pow_add, ← Nat.mul_assoc]
    apply Nat.mul_le_mul_right
    unfold kept
    apply le_cut
    rw [Nat.shiftLeft_eq]
    refine pow_cancel _ _ (last m p + B).toNat (p + B).toNat _ _ ?_ (by omega) (by omega)
    refine Nat.le_trans (Nat.le_of_eq ?_) h
    rw [Nat.mul_assoc, Nat.mul_assoc, ← Nat.pow_add, ← Nat.pow_add]
    rw [show (last m p + 1074).toNat + d + (B - 1074) = d + (last m p + B).toNat from by omega]
  · have h5 := le_kept m p hm (by omega)
    have h6 : c * 2 ^ q ≤ 2 ^ 53 * 2 ^ q := Nat.mul_le_mul_right _ (by rw [two53]; omega)
    have h7 : 2 ^ 52 * 2 ^ (last m p + 1074).toNat ≤ kept m p * 2 ^ (last m p + 1074).toNat := Nat.mul_le_mul_right _ (by rw [two52]; omega)
    rw [← Nat.pow_add] at h6 h7
    have h8 : 2 ^ (53 + q) ≤ 2 ^ (52 + (last m p + 1074).toNat) := Nat.pow_le_pow_right (by omega) (by omega)
    omega

theorem rnd_le (m : Nat) (p : Int) (B k : Nat) (hB : 1074 ≤ B) (hp : -(B : Int) ≤ p) (h : m * 2 ^ (p + B).toNat ≤ val k * 2 ^ (B - 1074)) : rnd m p ≤ k := by
  unfold rnd
  by_cases hm : m = 0
  · rw [if_pos hm]; omega
  · rw [if_neg hm]
    exact Nat.le_trans (Nat.min_le_left _ _) (made_le m p B k hm hB hp h)

theorem le_rnd (m : Nat) (p : Int) (B k : Nat) (hB : 1074 ≤ B) (hp : -(B : Int) ≤ p) (hk : k ≤ inf) (h : val k * 2 ^ (B - 1074) ≤ m * 2 ^ (p + B).toNat) : k ≤ rnd m p := by
  unfold rnd
  by_cases hm : m = 0
  · rw [if_pos hm]
    apply le_of_val
    rw [hm, Nat.zero_mul] at h
    have : 0 < 2 ^ (B - 1074) := Nat.two_pow_pos _
    rcases Nat.eq_zero_or_pos (val k) with z | z
    · rw [z]; exact Nat.zero_le _
    · have := Nat.mul_pos z this; omega
  · rw [if_neg hm]
    exact Nat.le_min.2 ⟨le_made m p B k hm hB hp h, hk⟩

def pow2 (n : Nat) : Nat := 2 ^ n

theorem rnd_le' (m : Nat) (p : Int) (B C k : Nat) (hB : C + 1074 = B) (hp : -(B : Int) ≤ p) (h : m * 2 ^ (p + B).toNat ≤ val k * pow2 C) : rnd m p ≤ k := by
  refine rnd_le m p B k (by omega) hp ?_
  rw [show B - 1074 = C from by omega]
  exact h

theorem le_rnd' (m : Nat) (p : Int) (B C k : Nat) (hB : C + 1074 = B) (hp : -(B : Int) ≤ p) (hk : k ≤ inf) (h : val k * pow2 C ≤ m * 2 ^ (p + B).toNat) : k ≤ rnd m p := by
  refine le_rnd m p B k (by omega) hp hk ?_
  rw [show B - 1074 = C from by omega]
  exact h

theorem rnd_inf (m : Nat) (p : Int) : rnd m p ≤ inf := by
  unfold rnd
  split
  · exact Nat.zero_le _
  · exact Nat.min_le_right _ _

/-! what a word stands for -/
/-- a finite word: not an infinity, not a NaN -/
def Fin (w : Nat) : Prop := w % 9223372036854775808 < inf ∧ w < 18446744073709551616

def neg (w : Nat) : Bool := decide (9223372036854775808 ≤ w)
def mag (w : Nat) : Nat := val (w % 9223372036854775808)
/-- its number, in units of 2^-1074 -/
def num (w : Nat) : Int := if neg w then -(mag w : Int) else mag w

theorem read_fin (w : Nat) (h : Fin w) : ∃ m q : Nat, double.read w = .number (neg w) m ((q : Int) - 1074) ∧ m * 2 ^ q = mag w := by
  obtain ⟨h1, h2⟩ := h
  unfold inf at h1
  have hn : (w / 9223372036854775808 % 2 == 1) = neg w := by
    unfold neg
    rw [Bool.eq_iff_iff, beq_iff_eq, decide_eq_true_iff]
    omega
  unfold Format.read mag val
  dsimp only
  rw [dbl_binade, dbl_inf, dbl_sign, dbl_least, hn]
  by_cases c : w % 9223372036854775808 < 4503599627370496
  · rw [if_pos c, if_pos c]
    exact ⟨_, 0, rfl, by simp⟩
  · rw [if_neg c, if_neg c, if_pos h1]
    refine ⟨_, w % 9223372036854775808 / 4503599627370496 - 1, ?_, rfl⟩
    congr 1

theorem signed_eq (s : Bool) (m k : Nat) : signed s m k = if s then -((m * 2 ^ k : Nat) : Int) else ((m * 2 ^ k : Nat) : Int) := by
  unfold signed
  rw [Nat.shiftLeft_eq]

/-- r is the rung nearest to A / B units: no rung parts them -/
structure Near (r A B : Nat) : Prop where
  top : r ≤ inf
  below : ∀ k, A ≤ val k * B → r ≤ k
  above : ∀ k, k ≤ inf → val k * B ≤ A → k ≤ r

theorem Near.exact {r A B k : Nat} (h : Near r A B) (hk : k ≤ inf) (e : A = val k * B) : r = k :=
  Nat.le_antisymm (h.below k (Nat.le_of_eq e)) (h.above k hk (Nat.le_of_eq e.symm))

theorem near_rnd (m q : Nat) : Near (rnd m ((q : Int) - 1074)) (m * 2 ^ q) 1 := by
  refine ⟨rnd_inf _ _, fun k h => ?_, fun k hk h => ?_⟩
  · refine rnd_le _ _ 1074 k (Nat.le_refl _) (by omega) ?_
    rw [show ((q : Int) - 1074 + (1074 : Nat)).toNat = q from by omega, show 1074 - 1074 = 0 from rfl, Nat.pow_zero]
    exact h
  · refine le_rnd _ _ 1074 k (Nat.le_refl _) (by omega) hk ?_
    rw [show ((q : Int) - 1074 + (1074 : Nat)).toNat = q from by omega, show 1074 - 1074 = 0 from rfl, Nat.pow_zero]
    exact h

/-- one unit's weight in a product of two numbers of units -/
def wide : Nat := pow2 1074

theorem near_rnd_wide (m i j : Nat) : Near (rnd m (((i : Int) - 1074) + ((j : Int) - 1074))) (m * 2 ^ (i + j)) wide := by
  have e : (((i : Int) - 1074) + ((j : Int) - 1074) + (2148 : Nat)).toNat = i + j := by omega
  refine ⟨rnd_inf _ _, fun k h => ?_, fun k hk h => ?_⟩
  · refine rnd_le' _ _ 2148 1074 k rfl (by omega) ?_
    rw [e]; exact h
  · refine le_rnd' _ _ 2148 1074 k rfl (by omega) hk ?_
    rw [e]; exact h

theorem num_eq (w m q : Nat) (h : m * 2 ^ q = mag w) (b : Nat) (hb : b ≤ q) : signed (neg w) m (q - b) * 2 ^ b = num w := by
  rw [signed_eq]
  unfold num
  have e : m * 2 ^ (q - b) * 2 ^ b = mag w := by
    rw [Nat.mul_assoc, ← Nat.pow_add, Nat.sub_add_cancel hb, h]
  cases neg w
  · simp only [Bool.false_eq_true, if_false]
    rw [← e]
    simp
  · simp only [if_true]
    rw [← e]
    simp [Int.neg_mul]

/-- the sign of a sum -/
def sumNeg (x y : Nat) : Bool := if num x + num y = 0 then neg x && neg y else decide (num x + num y < 0)

theorem sum_read (s t : Bool) (m n i j : Nat) : Datum.sum (.number s m ((i : Int) - 1074)) (.number t n ((j : Int) - 1074)) =
    some (.number (if signed s m (i - min i j) + signed t n (j - min i j) = 0 then s && t else decide (signed s m (i - min i j) + signed t n (j - min i j) < 0))
      (signed s m (i - min i j) + signed t n (j - min i j)).natAbs (((min i j : Nat) : Int) - 1074)) := by
  unfold Datum.sum
  dsimp only
  have e1 : min ((i : Int) - 1074) ((j : Int) - 1074) = ((min i j : Nat) : Int) - 1074 := by omega
  rw [e1]
  have e2 : ((i : Int) - 1074 - (((min i j : Nat) : Int) - 1074)).toNat = i - min i j := by omega
  have e3 : ((j : Int) - 1074 - (((min i j : Nat) : Int) - 1074)).toNat = j - min i j := by omega
  rw [e2, e3]

theorem add_core (s t : Bool) (m n i j : Nat) (X Y : Int)
    (hx : signed s m (i - min i j) * 2 ^ min i j = X) (hy : signed t n (j - min i j) * 2 ^ min i j = Y) :
    ∃ r, (Datum.sum (.number s m ((i : Int) - 1074)) (.number t n ((j : Int) - 1074))).map double.write = some (double.word (if X + Y = 0 then s && t else decide (X + Y < 0)) r) ∧ Near r (X + Y).natAbs 1 := by
  rw [sum_read]
  refine ⟨rnd (signed s m (i - min i j) + signed t n (j - min i j)).natAbs (((min i j : Nat) : Int) - 1074), ?_, ?_⟩
  · show some (double.nearest _ _ _) = _
    rw [nearest_eq]
    have hT : (signed s m (i - min i j) + signed t n (j - min i j)) * 2 ^ min i j = X + Y := by rw [Int.add_mul, hx, hy]
    have hp : (0 : Int) < 2 ^ min i j := Int.pow_pos (by decide)
    generalize signed s m (i - min i j) + signed t n (j - min i j) = T at *
    have z : T = 0 ↔ X + Y = 0 := by
      rw [← hT]
      constructor
      · intro h; rw [h]; simp
      · intro h
        rcases Int.mul_eq_zero.1 h with h | h
        · exact h
        · omega
    have l : T < 0 ↔ X + Y < 0 := by
      rw [← hT]
      constructor
      · intro h; exact Int.mul_neg_of_neg_of_pos h hp
      · intro h
        rcases Int.lt_or_le T 0 with c | c
        · exact c
        · have := Int.mul_nonneg c (Int.le_of_lt hp); omega
    simp only [z, l]
  · have := near_rnd (signed s m (i - min i j) + signed t n (j - min i j)).natAbs (min i j)
    have e : (signed s m (i - min i j) + signed t n (j - min i j)).natAbs * 2 ^ min i j = (X + Y).natAbs := by
      rw [← hx, ← hy, ← Int.add_mul, Int.natAbs_mul]
      congr 1
    rw [e] at this
    exact this

theorem add_fin (x y : Nat) (hx : Fin x) (hy : Fin y) :
    ∃ r, double.add x y = some (double.word (sumNeg x y) r) ∧ Near r (num x + num y).natAbs 1 := by
  obtain ⟨m, i, rx, vx⟩ := read_fin x hx
  obtain ⟨n, j, ry, vy⟩ := read_fin y hy
  unfold Format.add sumNeg
  rw [rx, ry]
  exact add_core _ _ _ _ _ _ _ _ (num_eq x m i vx _ (Nat.min_le_left _ _)) (num_eq y n j vy _ (Nat.min_le_right _ _))

def subNeg (x y : Nat) : Bool := if num x - num y = 0 then neg x && !neg y else decide (num x - num y < 0)

theorem signed_not (s : Bool) (m k : Nat) : signed (!s) m k = - signed s m k := by
  rw [signed_eq, signed_eq]
  cases s <;> simp

theorem sub_fin (x y : Nat) (hx : Fin x) (hy : Fin y) :
    ∃ r, double.sub x y = some (double.word (subNeg x y) r) ∧ Near r (num x - num y).natAbs 1 := by
  obtain ⟨m, i, rx, vx⟩ := read_fin x hx
  obtain ⟨n, j, ry, vy⟩ := read_fin y hy
  unfold Format.sub subNeg
  rw [rx, ry]
  have h := add_core (neg x) (!neg y) m n i j (num x) (-num y) (num_eq x m i vx _ (Nat.min_le_left _ _)) (by
    rw [signed_not, Int.neg_mul, num_eq y n j vy _ (Nat.min_le_right _ _)])
  exact h

theorem mul_fin (x y : Nat) (hx : Fin x) (hy : Fin y) :
    ∃ r, double.mul x y = some (double.word (neg x ^^ neg y) r) ∧ Near r (mag x * mag y) wide := by
  obtain ⟨m, i, rx, vx⟩ := read_fin x hx
  obtain ⟨n, j, ry, vy⟩ := read_fin y hy
  unfold Format.mul
  rw [rx, ry]
  refine ⟨rnd (m * n) (((i : Int) - 1074) + ((j : Int) - 1074)), ?_, ?_⟩
  · show some (double.nearest _ _ _) = _
    rw [nearest_eq]
  · have h := near_rnd_wide (m * n) i j
    have e : m * n * 2 ^ (i + j) = mag x * mag y := by
      rw [← vx, ← vy, Nat.pow_add]
      generalize 2 ^ i = a
      generalize 2 ^ j = b
      rw [Nat.mul_assoc, Nat.mul_assoc, Nat.mul_left_comm n]
    rw [e] at h
    exact h

theorem order_fin (x y : Nat) (hx : Fin x) (hy : Fin y) : double.order x y = some (compare (num x) (num y)) := by
  obtain ⟨m, i, rx, vx⟩ := read_fin x hx
  obtain ⟨n, j, ry, vy⟩ := read_fin y hy
  unfold Format.order
  rw [rx, ry]
  unfold Datum.order
  dsimp only
  have e1 : min ((i : Int) - 1074) ((j : Int) - 1074) = ((min i j : Nat) : Int) - 1074 := by omega
  rw [e1]
  have e2 : ((i : Int) - 1074 - (((min i j : Nat) : Int) - 1074)).toNat = i - min i j := by omega
  have e3 : ((j : Int) - 1074 - (((min i j : Nat) : Int) - 1074)).toNat = j - min i j := by omega
  rw [e2, e3]
  have hX := num_eq x m i vx _ (Nat.min_le_left i j)
  have hY := num_eq y n j vy _ (Nat.min_le_right i j)
  have hp : (0 : Int) < 2 ^ min i j := Int.pow_pos (by decide)
  rw [← hX, ← hY]
  generalize signed (neg x) m (i - min i j) = S
  generalize signed (neg y) n (j - min i j) = T
  generalize (2 : Int) ^ min i j = p at hp
  congr 1
  have h1 : S * p < T * p ↔ S < T := Int.mul_lt_mul_right hp
  have h2 : S * p = T * p ↔ S = T := ⟨fun h => Int.eq_of_mul_eq_mul_right (by omega) h, fun h => by rw [h]⟩
  simp only [compare, compareOfLessAndEq, h1, h2]

end FloatPlain
