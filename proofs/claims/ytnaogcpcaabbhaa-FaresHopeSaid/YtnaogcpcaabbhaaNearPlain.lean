/- The nearest whole number of a float, ties to the even one: what the program's way and the document's way make of a finite word. (No program in sight.) -/
import Derived.Test.YtnaogcpcaabbhaaFloatOrd
namespace FloatPlain
open Ieee

theorem pow2_add (a b : Nat) : pow2 (a + b) = pow2 a * pow2 b := by unfold pow2; rw [Nat.pow_add]
theorem pow2_add_eq (a b c : Nat) (h : a + b = c) : pow2 a * pow2 b = pow2 c := by rw [← pow2_add, h]
theorem pow2_le {a b : Nat} (h : a ≤ b) : pow2 a ≤ pow2 b := Nat.pow_le_pow_right (by decide) h
theorem pow2_is (a : Nat) : pow2 a = 2 ^ a := rfl
theorem wide_split (e : Nat) : 2 ^ (1074 + e) = wide * 2 ^ e := by
  rw [← pow2_is, ← pow2_is]; unfold wide; rw [pow2_add]
theorem wide_join {a b : Nat} (h : a + b = 1074) : 2 ^ a * 2 ^ b = wide := by
  rw [← pow2_is, ← pow2_is]; unfold wide; exact pow2_add_eq a b 1074 h
theorem le_wide {a : Nat} (h : a ≤ 1074) : 2 ^ a ≤ wide := by
  rw [← pow2_is]; unfold wide; exact pow2_le h

/-- A units to the nearest whole, ties to the even one -/
def rhe (A : Nat) : Nat := A / wide + (decide (wide < 2 * (A % wide)) || (wide == 2 * (A % wide) && A / wide % 2 == 1)).toNat

theorem cut_is (neg : Bool) (n d : Nat) : Toward.even.cut neg n d = n / 2 ^ d + (decide (2 ^ d < 2 * (n % 2 ^ d)) || (2 ^ d == 2 * (n % 2 ^ d) && n / 2 ^ d % 2 == 1)).toNat := by
  unfold Toward.cut
  dsimp only
  rw [Nat.one_shiftLeft]
  by_cases h : d ≤ n.log2 + 2
  · rw [Nat.min_eq_left h]
  · rw [Nat.min_eq_right (by omega)]
    have h1 : n < 2 ^ (n.log2 + 1) := Nat.lt_log2_self
    have h2 : 2 ^ (n.log2 + 2) = 2 * 2 ^ (n.log2 + 1) := by rw [Nat.pow_succ]; omega
    have h3 : 2 ^ (n.log2 + 2) ≤ 2 ^ d := Nat.pow_le_pow_right (by omega) (by omega)
    rw [Nat.div_eq_of_lt (show n < 2 ^ (n.log2 + 2) by omega), Nat.mod_eq_of_lt (show n < 2 ^ (n.log2 + 2) by omega), Nat.div_eq_of_lt (show n < 2 ^ d by omega), Nat.mod_eq_of_lt (show n < 2 ^ d by omega)]
    have a1 : ¬ 2 ^ (n.log2 + 2) < 2 * n := by omega
    have a2 : ¬ 2 ^ d < 2 * n := by omega
    simp [a1, a2]

theorem cut_zero (neg : Bool) (n d : Nat) : Toward.zero.cut neg n d = n / 2 ^ d := by
  unfold Toward.cut
  dsimp only
  rw [Nat.one_shiftLeft]
  by_cases h : d ≤ n.log2 + 2
  · rw [Nat.min_eq_left h]; rfl
  · rw [Nat.min_eq_right (by omega)]
    have h1 : n < 2 ^ (n.log2 + 1) := Nat.lt_log2_self
    have h2 : 2 ^ (n.log2 + 2) = 2 * 2 ^ (n.log2 + 1) := by rw [Nat.pow_succ]; omega
    have h3 : 2 ^ (n.log2 + 2) ≤ 2 ^ d := Nat.pow_le_pow_right (by omega) (by omega)
    rw [Nat.div_eq_of_lt (show n < 2 ^ (n.log2 + 2) by omega), Nat.div_eq_of_lt (show n < 2 ^ d by omega)]
    rfl

/-- a number of units, m at place q: shifted to whole ones and cut -/
theorem parts (m q A : Nat) (h : m * 2 ^ q = A) : ∃ n d g, m <<< ((q : Int) - 1074).toNat = n ∧ (-((q : Int) - 1074)).toNat = d ∧ n * g = A ∧ 2 ^ d * g = wide ∧ 0 < g ∨ (d = 0 ∧ m <<< ((q : Int) - 1074).toNat = n ∧ (-((q : Int) - 1074)).toNat = d ∧ n * wide = A) := by
  by_cases c : 1074 ≤ q
  · obtain ⟨e, rfl⟩ := Nat.le.dest c
    refine ⟨m * 2 ^ e, 0, 1, Or.inr ⟨rfl, ?_, by omega, ?_⟩⟩
    · rw [show (((1074 + e : Nat) : Int) - 1074).toNat = e from by omega, Nat.shiftLeft_eq]
    · rw [← h, wide_split, Nat.mul_assoc, Nat.mul_comm (2 ^ e)]
  · refine ⟨m, 1074 - q, 2 ^ q, Or.inl ⟨?_, by omega, h, ?_, Nat.two_pow_pos _⟩⟩
    · rw [show ((q : Int) - 1074).toNat = 0 from by omega]; rfl
    · exact wide_join (by omega)

theorem cut_mag (s : Bool) (m q A : Nat) (h : m * 2 ^ q = A) : Toward.even.cut s (m <<< ((q : Int) - 1074).toNat) (-((q : Int) - 1074)).toNat = rhe A := by
  obtain ⟨n, d, g, ⟨e1, e2, e3, e4, e5⟩ | ⟨e0, e1, e2, e3⟩⟩ := parts m q A h
  · rw [e1, e2, cut_is]
    unfold rhe
    rw [← e3, ← e4, Nat.mul_div_mul_right _ _ e5, Nat.mul_mod_mul_right]
    have a1 : (2 ^ d * g < 2 * (n % 2 ^ d * g)) ↔ (2 ^ d < 2 * (n % 2 ^ d)) := by
      rw [← Nat.mul_assoc]
      exact Nat.mul_lt_mul_right e5
    have a2 : (2 ^ d * g = 2 * (n % 2 ^ d * g)) ↔ (2 ^ d = 2 * (n % 2 ^ d)) := by
      rw [← Nat.mul_assoc]
      exact ⟨fun h => Nat.eq_of_mul_eq_mul_right e5 h, fun h => congrArg (· * g) h⟩
    congr 2
    rw [Bool.eq_iff_iff]
    simp only [Bool.or_eq_true, Bool.and_eq_true, decide_eq_true_eq, beq_iff_eq, a1, a2]
  · rw [e1, e2, e0, cut_is]
    unfold rhe
    have wp := wide_pos
    have w0 : ¬ wide = 0 := by omega
    rw [← e3, Nat.mul_div_cancel _ wp, Nat.mul_mod_left]
    simp [Nat.mod_one, w0]

theorem trunc_mag (s : Bool) (m q A : Nat) (h : m * 2 ^ q = A) : Toward.zero.cut s (m <<< ((q : Int) - 1074).toNat) (-((q : Int) - 1074)).toNat = A / wide := by
  obtain ⟨n, d, g, ⟨e1, e2, e3, e4, e5⟩ | ⟨e0, e1, e2, e3⟩⟩ := parts m q A h
  · rw [e1, e2, cut_zero, ← e3, ← e4, Nat.mul_div_mul_right _ _ e5]
  · rw [e1, e2, e0, cut_zero, ← e3, Nat.mul_div_cancel _ wide_pos]
    simp

/-- a number of fewer than 54 digits is a rung's -/
theorem rep (c t : Nat) (hc : c < 9007199254740992) (ht : t ≤ 2040) : ∃ k, val k = c * 2 ^ t ∧ k < inf := by
  by_cases h0 : c = 0
  · subst h0
    exact ⟨0, by simp [val_zero], by unfold inf; omega⟩
  · have l1 : 2 ^ c.log2 ≤ c := Nat.log2_self_le h0
    have l2 : c < 2 ^ (c.log2 + 1) := Nat.lt_log2_self
    have l3 : c.log2 ≤ 52 := by
      rcases Nat.lt_or_ge 52 c.log2 with h | h
      · have := Nat.pow_le_pow_right (n := 2) (by omega) (show 53 ≤ c.log2 from h)
        rw [two53] at this; omega
      · exact h
    generalize c.log2 = l at *
    by_cases h : 52 ≤ t + l
    · have k1 : 4503599627370496 ≤ c * 2 ^ (52 - l) := by
        have := Nat.mul_le_mul_right (2 ^ (52 - l)) l1
        rw [← Nat.pow_add, show l + (52 - l) = 52 from by omega, two52] at this
        exact this
      have k2 : c * 2 ^ (52 - l) ≤ 9007199254740992 := by
        have := Nat.mul_le_mul_right (2 ^ (52 - l)) (Nat.le_of_lt l2)
        rw [← Nat.pow_add, show l + 1 + (52 - l) = 53 from by omega, two53] at this
        exact this
      refine ⟨(t + l - 52) * 4503599627370496 + c * 2 ^ (52 - l), ?_, ?_⟩
      · rw [val_made _ _ k2 (Or.inr k1), Nat.mul_assoc, ← Nat.pow_add]
        congr 2; omega
      · unfold inf
        generalize c * 2 ^ (52 - l) = K at k2
        omega
    · have k1 : c * 2 ^ t < 4503599627370496 := by
        have := Nat.mul_lt_mul_of_pos_right l2 (Nat.two_pow_pos t)
        rw [← Nat.pow_add] at this
        have h9 := Nat.pow_le_pow_right (n := 2) (by omega) (show l + 1 + t ≤ 52 by omega)
        rw [two52] at h9
        omega
      refine ⟨c * 2 ^ t, ?_, by unfold inf; omega⟩
      have := val_made 0 (c * 2 ^ t) (by omega) (Or.inl rfl)
      simpa using this

theorem rep' (c t : Nat) (hc : c < 9007199254740992) (ht : t ≤ 2040) : ∃ k, val k = c * pow2 t ∧ k < inf := rep c t hc ht
theorem near_rnd' (m q : Nat) : Near (rnd m ((q : Int) - 1074)) (m * pow2 q) 1 := near_rnd m q
theorem val_made2 (l k : Nat) (hk : k ≤ 9007199254740992) (hl : l = 0 ∨ 4503599627370496 ≤ k) : val (l * 4503599627370496 + k) = k * pow2 l := val_made l k hk hl

theorem word_neg (s : Bool) (k : Nat) (h : k < inf) : neg (double.word s k) = s ∧ mag (double.word s k) = val k ∧ Fin (double.word s k) := by
  unfold inf at h
  cases s
  · rw [word_false]
    have hp : Pos k := by unfold Pos inf; exact h
    exact ⟨hp.neg, hp.mag, hp.fin⟩
  · rw [word_true]
    refine ⟨by unfold neg; rw [decide_eq_true_iff]; omega, ?_, ?_⟩
    · unfold mag; congr 1; omega
    · unfold Fin inf; omega

theorem word_num (s : Bool) (k : Nat) (h : k < inf) : num (double.word s k) = if s then -(val k : Int) else val k := by
  obtain ⟨h1, h2, _⟩ := word_neg s k h
  unfold num
  rw [h1, h2]

/-- a finite word's magnitude -/
theorem fin_form {w : Nat} (h : Fin w) : ∃ c q, mag w = c * 2 ^ q ∧ c < 9007199254740992 ∧ (q = 0 ∨ 4503599627370496 ≤ c) ∧ q ≤ 2045 ∧ mag w = val (w % 9223372036854775808) ∧ w % 9223372036854775808 < inf := by
  obtain ⟨c, q, h1, h2, h3, h4⟩ := val_form (w % 9223372036854775808)
  refine ⟨c, q, h1, h2, h3, ?_, rfl, h.1⟩
  have := h.1
  unfold inf at this
  omega

theorem rhe_le (A : Nat) : rhe A ≤ A / wide + 1 := by
  unfold rhe
  have : ∀ b : Bool, b.toNat ≤ 1 := by intro b; cases b <;> decide
  exact Nat.add_le_add_left (this _) _

theorem rhe_whole {A : Nat} (h : A % wide = 0) : rhe A = A / wide := by
  unfold rhe
  have := wide_pos
  rw [h]
  have a1 : ¬ wide < 2 * 0 := by omega
  have a2 : ¬ wide = 2 * 0 := by omega
  simp [a1, a2]

/-- great numbers are whole -/
theorem great {c q : Nat} (hq : 1074 ≤ q) : c * 2 ^ q % wide = 0 := by
  obtain ⟨e, rfl⟩ := Nat.le.dest hq
  rw [wide_split, Nat.mul_left_comm]
  exact Nat.mul_mod_right _ _

theorem small {c q : Nat} (hc : c < 9007199254740992) (hq : q < 1074) : c * 2 ^ q / wide < 4503599627370496 := by
  rw [Nat.div_lt_iff_lt_mul wide_pos]
  have h1 : c * 2 ^ q < 9007199254740992 * 2 ^ q := Nat.mul_lt_mul_of_pos_right hc (Nat.two_pow_pos _)
  have h2 : 2 ^ (q + 1) ≤ wide := le_wide (by omega)
  rw [Nat.pow_succ] at h2
  omega

/-- the whole number nearest to a finite word, as a word -/
theorem whole_rung {w : Nat} (h : Fin w) : ∃ k, k < inf ∧ val k = rhe (mag w) * wide := by
  obtain ⟨c, q, h1, h2, _, h4, h5, h6⟩ := fin_form h
  by_cases hq : 1074 ≤ q
  · refine ⟨_, h6, ?_⟩
    have hz : mag w % wide = 0 := by rw [h1]; exact great hq
    rw [rhe_whole hz, ← h5]
    have := Nat.div_add_mod (mag w) wide
    rw [hz, Nat.mul_comm] at this
    omega
  · have hs := small h2 (show q < 1074 by omega)
    rw [← h1] at hs
    have := rhe_le (mag w)
    obtain ⟨k, k1, k2⟩ := rep' (rhe (mag w)) 1074 (by omega) (by omega)
    exact ⟨k, k2, k1⟩

def evenW (w : Nat) : Nat := double.write ((double.read w).integral .even)

theorem write_num (s : Bool) (n k : Nat) (hk : k < inf) (h : val k = n * wide) : double.write (.number s n 0) = double.word s k := by
  show double.nearest s n 0 = _
  rw [nearest_eq]
  have h1 := near_rnd' n 1074
  rw [show ((1074 : Nat) : Int) - 1074 = 0 from rfl] at h1
  rw [h1.exact (Nat.le_of_lt hk) (by rw [h, Nat.mul_one]; rfl)]

theorem evenW_fin {w : Nat} (h : Fin w) : Fin (evenW w) ∧ neg (evenW w) = neg w ∧ mag (evenW w) = rhe (mag w) * wide := by
  obtain ⟨m, q, h1, h2⟩ := read_fin w h
  obtain ⟨k, k1, k2⟩ := whole_rung h
  have e : evenW w = double.word (neg w) k := by
    unfold evenW
    rw [h1]
    show double.write (.number (neg w) (Toward.even.cut (neg w) (m <<< ((q : Int) - 1074).toNat) (-((q : Int) - 1074)).toNat) 0) = _
    rw [cut_mag _ _ _ _ h2]
    exact write_num _ _ _ k1 k2
  obtain ⟨a, b, c⟩ := word_neg (neg w) k k1
  rw [e]
  exact ⟨c, a, by rw [b, k2]⟩

theorem trunc_fin {w : Nat} (h : Fin w) : (double.read w).toInt .zero = some (if neg w then -((mag w / wide : Nat) : Int) else ((mag w / wide : Nat) : Int)) := by
  obtain ⟨m, q, h1, h2⟩ := read_fin w h
  rw [h1]
  show some (signed (neg w) (Toward.zero.cut (neg w) (m <<< ((q : Int) - 1074).toNat) (-((q : Int) - 1074)).toNat) 0) = _
  rw [trunc_mag _ _ _ _ h2, signed_eq]
  simp

/-- the whole number nearest to a finite word -/
def near (w : Nat) : Int := if neg w then -(rhe (mag w) : Int) else rhe (mag w)

theorem evenW_num {w : Nat} (h : Fin w) : num (evenW w) = near w * wide := by
  obtain ⟨_, h2, h3⟩ := evenW_fin h
  unfold num near
  rw [h2, h3]
  cases neg w <;> simp [Int.neg_mul]

theorem evenW_int {w : Nat} (h : Fin w) : (double.read (evenW w)).toInt .zero = some (near w) := by
  obtain ⟨h1, h2, h3⟩ := evenW_fin h
  rw [trunc_fin h1, h2, h3, Nat.mul_div_cancel _ wide_pos]
  rfl

/-- a whole number as a word -/
def intW (n : Int) : Nat := double.write (.number (decide (n < 0)) n.natAbs 0)

theorem intW_is {n : Int} (h : n.natAbs < 9007199254740992) : ∃ k, k < inf ∧ val k = n.natAbs * wide ∧ intW n = double.word (decide (n < 0)) k := by
  obtain ⟨k, k1, k2⟩ := rep' n.natAbs 1074 h (by omega)
  exact ⟨k, k2, k1, write_num _ _ _ k2 k1⟩

theorem intW_fin {n : Int} (h : n.natAbs < 9007199254740992) : Fin (intW n) ∧ num (intW n) = n * wide ∧ neg (intW n) = decide (n < 0) := by
  obtain ⟨k, k1, k2, e⟩ := intW_is h
  obtain ⟨a, _, c⟩ := word_neg (decide (n < 0)) k k1
  rw [e]
  refine ⟨c, ?_, a⟩
  rw [word_num _ _ k1, k2]
  by_cases hn : n < 0
  · rw [if_pos (by simpa using hn)]
    have : (n.natAbs : Int) = -n := by omega
    rw [Int.natCast_mul, this, Int.neg_mul, Int.neg_neg]
  · rw [if_neg (by simpa using hn)]
    have : (n.natAbs : Int) = n := by omega
    rw [Int.natCast_mul, this]

def half : Nat := 4602678819172646912
def H : Nat := pow2 1073
theorem pow2_succ (n : Nat) : pow2 (n + 1) = 2 * pow2 n := by
  unfold pow2; rw [Nat.pow_succ, Nat.mul_comm]
theorem pow2_twice (a b : Nat) (h : a = b + 1) : pow2 a = 2 * pow2 b := by rw [h, pow2_succ]
theorem wide_H : wide = 2 * H := by
  unfold wide H
  exact pow2_twice 1074 1073 (by omega)
theorem le_H {a : Nat} (h : a ≤ 1073) : 2 ^ a ≤ H := by
  rw [← pow2_is]; unfold H; exact pow2_le h
theorem H_pos : 0 < H := pow2_pos 1073
theorem val_half : val half = H := by
  have h := val_made2 1021 4503599627370496 (by omega) (Or.inr (Nat.le_refl _))
  rw [show 1021 * 4503599627370496 + 4503599627370496 = half from by unfold half; omega] at h
  rw [h, show (4503599627370496 : Nat) = pow2 52 from by decide]
  exact pow2_add_eq 52 1021 1073 (by omega)
theorem half_pos : Pos half := by unfold Pos half inf; omega

theorem great_whole {w : Nat} (h : Fin w) (hg : 4503599627370496 * wide ≤ mag w) : mag w % wide = 0 := by
  obtain ⟨c, q, h1, h2, _⟩ := fin_form h
  rcases Nat.lt_or_ge q 1074 with hq | hq
  · have := small h2 hq
    rw [← h1, Nat.div_lt_iff_lt_mul wide_pos] at this
    omega
  · rw [h1]; exact great hq

/-- what is left over is so many times a power of two -/
theorem rest_form {w : Nat} (h : Fin w) : mag w % wide = 0 ∨ ∃ c q b, q + b = 1074 ∧ c < 9007199254740992 ∧ mag w = c * 2 ^ q ∧ mag w % wide = (c % 2 ^ b) * 2 ^ q ∧ wide = 2 ^ b * 2 ^ q := by
  obtain ⟨c, q, h1, h2, _⟩ := fin_form h
  rcases Nat.lt_or_ge q 1074 with hq | hq
  · right
    have hw : wide = 2 ^ (1074 - q) * 2 ^ q := (wide_join (by omega)).symm
    refine ⟨c, q, 1074 - q, by omega, h2, h1, ?_, hw⟩
    rw [h1, hw, Nat.mul_mod_mul_right]
  · left; rw [h1]; exact great hq

/-- what is left over, to below and to above: a rung's, or the number is less than a half -/
theorem rest_rep {w : Nat} (h : Fin w) : (∃ k, k < inf ∧ val k = mag w % wide) ∧ ((∃ k, k < inf ∧ val k = wide - mag w % wide) ∨ mag w < H) := by
  rcases rest_form h with z | ⟨c, q, b, hqb, hc, h1, h2, h3⟩
  · rw [z]
    refine ⟨⟨0, by unfold inf; omega, val_zero⟩, Or.inl ⟨one, one_pos, by rw [val_one, Nat.sub_zero]⟩⟩
  · have hle : c % 2 ^ b ≤ c := Nat.mod_le _ _
    refine ⟨?_, ?_⟩
    · obtain ⟨k, k1, k2⟩ := rep (c % 2 ^ b) q (by omega) (by omega)
      exact ⟨k, k2, by rw [k1, h2]⟩
    · by_cases h0 : c % 2 ^ b = 0
      · left
        refine ⟨one, one_pos, ?_⟩
        rw [h2, h0, val_one]; simp
      · by_cases hb : b ≤ 53
        · left
          have hp := Nat.pow_le_pow_right (n := 2) (by omega) hb
          rw [two53] at hp
          obtain ⟨k, k1, k2⟩ := rep (2 ^ b - c % 2 ^ b) q (by omega) (by omega)
          refine ⟨k, k2, ?_⟩
          rw [k1, h2, h3, Nat.sub_mul]
        · right
          rw [h1]
          have h4 : c * 2 ^ q < 9007199254740992 * 2 ^ q := Nat.mul_lt_mul_of_pos_right hc (Nat.two_pow_pos _)
          have h5 : 2 ^ (53 + q) ≤ H := le_H (by omega)
          rw [Nat.pow_add, two53] at h5
          omega

/-- the document's first guess: the whole number below -/
def floorW (w : Nat) : Int := if neg w then -((mag w / wide : Nat) : Int) - (if mag w % wide = 0 then 0 else 1) else ((mag w / wide : Nat) : Int)

theorem sub_pos_num {w v : Nat} (hw : Fin w) (hv : Fin v) (d : Nat) (hd : num w - num v = d) (hd2 : d ≤ wide) :
    ∃ r, double.sub w v = some (fsub w v) ∧ Fin (fsub w v) ∧ num (fsub w v) = val r ∧ Near r d 1 := by
  obtain ⟨r, h1, h2⟩ := sub_fin w v hw hv
  rw [hd] at h2
  have e : ((d : Int)).natAbs = d := by omega
  rw [e] at h2
  have hr : r ≤ one := h2.below one (by rw [val_one]; omega)
  have hi : r < inf := Nat.lt_of_le_of_lt hr one_pos
  obtain ⟨_, _, h4⟩ := word_neg (subNeg w v) r hi
  have h5 := word_num (subNeg w v) r hi
  have hf : fsub w v = double.word (subNeg w v) r := by unfold fsub; rw [h1]; rfl
  rw [hf]
  refine ⟨r, h1, h4, ?_, h2⟩
  rw [h5]
  by_cases h0 : d = 0
  · have hr0 : r = 0 := h2.exact (k := 0) (Nat.zero_le _) (by rw [h0, val_zero])
    rw [hr0, val_zero]
    split <;> rfl
  · have hs : subNeg w v = false := by
      unfold subNeg
      rw [hd, if_neg (by omega), decide_eq_false_iff_not]
      omega
    rw [hs]; rfl

/-- how far the number is above it -/
def above (w : Nat) : Nat := if neg w = true ∧ mag w % wide ≠ 0 then wide - mag w % wide else mag w % wide

theorem floor_num (w : Nat) : num w - floorW w * wide = above w ∧ above w < wide := by
  have hw := wide_pos
  have hm := Nat.mod_lt (mag w) hw
  have hd := Nat.div_add_mod (mag w) wide
  unfold num floorW above
  have hd' : (mag w : Int) = ((mag w / wide : Nat) : Int) * (wide : Int) + ((mag w % wide : Nat) : Int) := by
    rw [Int.mul_comm, ← Int.natCast_mul, ← Int.natCast_add, hd]
  rw [hd']
  generalize mag w / wide = Q
  generalize mag w % wide = R at hm ⊢
  generalize wide = W at hw hm ⊢
  cases neg w
  · simp only [Bool.false_eq_true, if_false, false_and]
    exact ⟨by omega, hm⟩
  · by_cases h0 : R = 0
    · subst h0
      simp only [if_true, ne_eq, not_true_eq_false, and_false, if_false]
      refine ⟨?_, hw⟩
      rw [Int.sub_zero, Int.neg_mul]; omega
    · simp only [if_true, ne_eq, h0, not_false_eq_true, and_self, if_false]
      refine ⟨?_, by omega⟩
      rw [Int.sub_mul, Int.neg_mul]
      omega

theorem pick_arith (ng : Bool) (Q R V h : Nat) (hh : 0 < h) (hm : R < 2 * h) (key : V = (if ng = true ∧ R ≠ 0 then 2 * h - R else R) ∨ (ng = true ∧ R ≠ 0 ∧ Q = 0 ∧ R < h ∧ h ≤ V)) :
    let fl : Int := if ng then -(Q : Int) - (if R = 0 then 0 else 1) else (Q : Int)
    let up : Nat := (decide (2 * h < 2 * R) || (2 * h == 2 * R && Q % 2 == 1)).toNat
    let nr : Int := if ng then -((Q + up : Nat) : Int) else ((Q + up : Nat) : Int)
    ((((h : Int) < (V : Int)) ∨ ((V : Int) = (h : Int) ∧ fl % 2 ≠ 0)) → nr = fl + 1) ∧ (¬ (((h : Int) < (V : Int)) ∨ ((V : Int) = (h : Int) ∧ fl % 2 ≠ 0)) → nr = fl) := by
  have up1 : h < R ∨ (R = h ∧ Q % 2 = 1) → (decide (2 * h < 2 * R) || (2 * h == 2 * R && Q % 2 == 1)) = true := by
    intro h2
    rw [Bool.or_eq_true, decide_eq_true_iff, Bool.and_eq_true, beq_iff_eq, beq_iff_eq]
    omega
  have up0 : ¬ (h < R ∨ (R = h ∧ Q % 2 = 1)) → (decide (2 * h < 2 * R) || (2 * h == 2 * R && Q % 2 == 1)) = false := by
    intro h2
    rw [Bool.eq_false_iff]
    intro h3
    rw [Bool.or_eq_true, decide_eq_true_iff, Bool.and_eq_true, beq_iff_eq, beq_iff_eq] at h3
    apply h2
    omega
  generalize (decide (2 * h < 2 * R) || (2 * h == 2 * R && Q % 2 == 1)) = b at up1 up0
  dsimp only
  by_cases hc : h < R ∨ (R = h ∧ Q % 2 = 1)
  · obtain rfl := up1 hc
    cases ng
    · simp only [Bool.false_eq_true, if_false, false_and, or_false, Bool.toNat_true] at key ⊢
      subst key
      constructor
      · intro _; omega
      · intro h1; exfalso; apply h1; omega
    · by_cases h0 : R = 0
      · omega
      · simp only [if_true, true_and, ne_eq, h0, not_false_eq_true, if_false, Bool.toNat_true] at key ⊢
        constructor
        · intro h1; exfalso; omega
        · intro _; omega
  · obtain rfl := up0 hc
    cases ng
    · simp only [Bool.false_eq_true, if_false, false_and, or_false, Bool.toNat_false] at key ⊢
      subst key
      constructor
      · intro h1; exfalso; omega
      · intro _; omega
    · by_cases h0 : R = 0
      · subst h0
        simp only [if_true, ne_eq, not_true_eq_false, and_false, if_false, false_and, or_false, Bool.toNat_false] at key ⊢
        subst key
        constructor
        · intro h1; exfalso; omega
        · intro _; omega
      · simp only [if_true, true_and, ne_eq, h0, not_false_eq_true, if_false, Bool.toNat_false] at key ⊢
        constructor
        · intro _; omega
        · intro h1; exfalso; apply h1; omega

theorem ref_law {w : Nat} (h : Fin w) (hs : mag w < 4503599627370496 * wide) :
    (floorW w).natAbs < 9007199254740992 ∧ double.sub w (intW (floorW w)) = some (fsub w (intW (floorW w))) ∧ Fin (fsub w (intW (floorW w))) ∧
    (((num half < num (fsub w (intW (floorW w)))) ∨ (num (fsub w (intW (floorW w))) = num half ∧ floorW w % 2 ≠ 0)) → near w = floorW w + 1) ∧
    (¬ ((num half < num (fsub w (intW (floorW w)))) ∨ (num (fsub w (intW (floorW w))) = num half ∧ floorW w % 2 ≠ 0)) → near w = floorW w) := by
  have hw := wide_pos
  have hQ : mag w / wide < 4503599627370496 := by rwa [Nat.div_lt_iff_lt_mul hw]
  have hn : (floorW w).natAbs < 9007199254740992 := by
    unfold floorW
    generalize mag w / wide = Q at hQ ⊢
    by_cases c : neg w = true
    · rw [if_pos c]; split <;> omega
    · rw [if_neg c]; omega
  obtain ⟨f1, f2, f3⟩ := intW_fin hn
  obtain ⟨g1, g2⟩ := floor_num w
  obtain ⟨r, s1, s2, s3, s4⟩ := sub_pos_num h f1 (above w) (by rw [f2]; exact g1) (Nat.le_of_lt g2)
  refine ⟨hn, s1, s2, ?_⟩
  rw [s3, half_pos.num, val_half]
  obtain ⟨⟨k0, a0, b0⟩, hrep⟩ := rest_rep h
  have hm := Nat.mod_lt (mag w) hw
  have hWH := wide_H
  have hH := H_pos
  -- is what is left over told exactly?
  have key : val r = above w ∨ (neg w = true ∧ mag w % wide ≠ 0 ∧ mag w < H ∧ H ≤ val r) := by
    by_cases c : neg w = true ∧ mag w % wide ≠ 0
    · have ha : above w = wide - mag w % wide := by unfold above; rw [if_pos c]
      rcases hrep with ⟨k1, a1, b1⟩ | hsm
      · left
        rw [ha] at s4 ⊢
        rw [s4.exact (k := k1) (Nat.le_of_lt a1) (by rw [b1, Nat.mul_one]), b1]
      · right
        refine ⟨c.1, c.2, hsm, ?_⟩
        have hmod : mag w % wide = mag w := Nat.mod_eq_of_lt (by omega)
        have := s4.above half (Nat.le_of_lt half_pos) (by rw [val_half, ha, hmod]; omega)
        have := val_le this
        rw [val_half] at this
        exact this
    · left
      have ha : above w = mag w % wide := by unfold above; rw [if_neg c]
      rw [ha] at s4 ⊢
      rw [s4.exact (k := k0) (Nat.le_of_lt a0) (by rw [b0, Nat.mul_one]), b0]
  have hwi : (wide : Nat) = 2 * H := hWH
  have key2 : val r = (if neg w = true ∧ mag w % wide ≠ 0 then 2 * H - mag w % wide else mag w % wide) ∨ (neg w = true ∧ mag w % wide ≠ 0 ∧ mag w / wide = 0 ∧ mag w % wide < H ∧ H ≤ val r) := by
    rcases key with k1 | ⟨k1, k2, k3, k4⟩
    · left
      rw [k1]; unfold above
      by_cases c : neg w = true ∧ mag w % wide ≠ 0
      · rw [if_pos c, if_pos c]; omega
      · rw [if_neg c, if_neg c]
    · right
      refine ⟨k1, k2, Nat.div_eq_of_lt (by omega), ?_, k4⟩
      exact Nat.lt_of_le_of_lt (Nat.mod_le _ _) k3
  have fin := pick_arith (neg w) (mag w / wide) (mag w % wide) (val r) H hH (by omega) key2
  dsimp only at fin
  rw [← hwi] at fin
  exact fin

theorem near_range {w : Nat} (h : Fin w) : (-9223372036854775808 * (wide : Int) ≤ num w ∧ num w < 9223372036854775808 * (wide : Int)) ↔ (-9223372036854775808 ≤ near w ∧ near w < 9223372036854775808) := by
  have hw := wide_pos
  have hd := Nat.div_add_mod (mag w) wide
  have hm := Nat.mod_lt (mag w) hw
  have hcase : (mag w = (mag w / wide) * wide ∧ rhe (mag w) = mag w / wide) ∨ (mag w < 4503599627370496 * wide ∧ rhe (mag w) ≤ 4503599627370496) := by
    by_cases hg : 4503599627370496 * wide ≤ mag w
    · left
      have hz := great_whole h hg
      refine ⟨?_, rhe_whole hz⟩
      rw [hz] at hd
      rw [Nat.mul_comm]; omega
    · right
      refine ⟨by omega, ?_⟩
      have h1 : mag w / wide < 4503599627370496 := by rw [Nat.div_lt_iff_lt_mul hw]; omega
      have := rhe_le (mag w)
      omega
  unfold num near
  rcases hcase with ⟨h1, h2⟩ | ⟨h1, h2⟩
  · rw [h2]
    generalize mag w / wide = Q at h1 ⊢
    rw [h1]
    generalize wide = W at hw ⊢
    have hW : (0 : Int) < W := by omega
    have hQW : ((Q * W : Nat) : Int) = (Q : Int) * W := by simp
    rw [hQW]
    cases neg w
    · simp only [Bool.false_eq_true, if_false]
      have e1 : (Q : Int) * W < 9223372036854775808 * W ↔ (Q : Int) < 9223372036854775808 := Int.mul_lt_mul_right hW
      rw [e1]
      have p1 : 0 ≤ (Q : Int) * W := Int.mul_nonneg (by omega) (by omega)
      omega
    · simp only [if_true]
      rw [← Int.neg_mul]
      have e1 : -9223372036854775808 * (W : Int) ≤ -(Q : Int) * W ↔ -9223372036854775808 ≤ -(Q : Int) := Int.mul_le_mul_right hW
      rw [e1]
      have p1 : 0 ≤ (Q : Int) * W := Int.mul_nonneg (by omega) (by omega)
      rw [Int.neg_mul]
      omega
  · generalize rhe (mag w) = E at h2 ⊢
    generalize mag w = A at h1 ⊢
    generalize wide = W at hw h1 ⊢
    cases neg w
    · simp only [Bool.false_eq_true, if_false]; omega
    · simp only [if_true]; omega

/-- of a great number the whole part is the number -/
theorem near_great {w : Nat} (h : Fin w) (hg : 4503599627370496 * wide ≤ mag w) : (double.read w).toInt .zero = some (near w) := by
  rw [trunc_fin h]
  unfold near
  rw [rhe_whole (great_whole h hg)]
theorem two_num (n : Nat) (h : n ≤ 1023) : num (two n) = 2 ^ n * (wide : Int) ∧ Fin (two n) ∧ num (9223372036854775808 + two n) = -(2 ^ n * (wide : Int)) ∧ Fin (9223372036854775808 + two n) := by
  have hp : Pos (two n) := by unfold Pos two inf; omega
  have hv : val (two n) = 2 ^ n * wide := by
    rw [val_two_pow, Nat.mul_comm]
    exact wide_split n
  have hc : ((2 ^ n * wide : Nat) : Int) = 2 ^ n * (wide : Int) := by simp
  obtain ⟨a, b, c⟩ := word_neg true (two n) hp
  have d := word_num true (two n) hp
  rw [word_true] at a b c d
  refine ⟨by rw [hp.num, hv, hc], hp.fin, ?_, c⟩
  rw [d, if_pos rfl, hv, hc]

theorem hi63 : (4890909195324358656 : Nat) = two 63 := by decide
theorem lo63 : (14114281232179134464 : Nat) = 9223372036854775808 + two 63 := by decide
theorem hi52 : (4841369599423283200 : Nat) = two 52 := by decide
theorem lo52 : (14064741636278059008 : Nat) = 9223372036854775808 + two 52 := by decide

/-- is it told? -/
def told (w : Nat) : Bool := decide (w % 9223372036854775808 < inf) && decide (-9223372036854775808 ≤ near w) && decide (near w < 9223372036854775808)
/-- what is told of a word -/
def nv (w : Nat) : Int := if told w then near w else 0
def ne (w : Nat) : Int := if told w then 0 else 250

theorem p63 : (2 : Int) ^ 63 = 9223372036854775808 := by decide
theorem p52 : (2 : Int) ^ 52 = 4503599627370496 := by decide

theorem even_lo {w : Nat} (h : Fin w) : (double.order (evenW w) 14114281232179134464 == some .lt) = decide (near w < -9223372036854775808) := by
  obtain ⟨_, _, t3, t4⟩ := two_num 63 (by omega)
  rw [lo63, cmp_lt (evenW_fin h).1 t4, t3, evenW_num h, p63]
  have hw := wide_pos
  generalize wide = W at hw
  have hW : (0 : Int) < W := by omega
  rw [decide_eq_decide, ← Int.neg_mul]
  exact Int.mul_lt_mul_right hW

theorem even_hi {w : Nat} (h : Fin w) : (double.order (evenW w) 4890909195324358656 == some .gt || double.order (evenW w) 4890909195324358656 == some .eq) = decide (9223372036854775808 ≤ near w) := by
  obtain ⟨t1, t2, _, _⟩ := two_num 63 (by omega)
  rw [hi63, cmp_gt (evenW_fin h).1 t2, cmp_eq (evenW_fin h).1 t2, t1, evenW_num h, p63]
  have hw := wide_pos
  generalize wide = W at hw
  have hW : (0 : Int) < W := by omega
  have e1 : 9223372036854775808 * (W : Int) < near w * W ↔ 9223372036854775808 < near w := Int.mul_lt_mul_right hW
  have e2 : near w * (W : Int) = 9223372036854775808 * W ↔ near w = 9223372036854775808 := ⟨fun h => Int.eq_of_mul_eq_mul_right (by omega) h, fun h => by rw [h]⟩
  rw [Bool.eq_iff_iff]
  simp only [Bool.or_eq_true, decide_eq_true_eq, e1, e2]
  omega
/-- the whole part, towards zero -/
def truncW (w : Nat) : Int := if neg w then -((mag w / wide : Nat) : Int) else ((mag w / wide : Nat) : Int)

theorem floor_is (w : Nat) : floorW w = if num w < truncW w * wide then truncW w - 1 else truncW w := by
  have hw := wide_pos
  have hm := Nat.mod_lt (mag w) hw
  have hd := Nat.div_add_mod (mag w) wide
  have hd' : (mag w : Int) = ((mag w / wide : Nat) : Int) * (wide : Int) + ((mag w % wide : Nat) : Int) := by
    rw [Int.mul_comm, ← Int.natCast_mul, ← Int.natCast_add, hd]
  unfold floorW num truncW
  rw [hd']
  generalize mag w / wide = Q
  generalize mag w % wide = R at hm ⊢
  generalize wide = W at hw hm ⊢
  cases neg w
  · simp only [Bool.false_eq_true, if_false]
    rw [if_neg (by omega)]
  · simp only [if_true]
    rw [Int.neg_mul]
    by_cases h0 : R = 0
    · subst h0
      rw [if_pos rfl, if_neg (by omega)]; simp
    · rw [if_neg h0, if_pos (by omega)]

theorem trunc_bound {w : Nat} (hs : mag w < 4503599627370496 * wide) : -4503599627370496 < truncW w ∧ truncW w < 4503599627370496 := by
  have hQ : mag w / wide < 4503599627370496 := by rwa [Nat.div_lt_iff_lt_mul wide_pos]
  unfold truncW
  generalize mag w / wide = Q at hQ ⊢
  split <;> omega

theorem told_fin {w : Nat} (h : Fin w) : told w = (decide (-9223372036854775808 * (wide : Int) ≤ num w) && decide (num w < 9223372036854775808 * (wide : Int))) := by
  unfold told
  have h1 := h.1
  rw [decide_eq_true h1, Bool.true_and, Bool.eq_iff_iff]
  simp only [Bool.and_eq_true, decide_eq_true_eq]
  exact (near_range h).symm

/-- is it at least 2^52 in size? -/
theorem mag_great {w : Nat} (_h : Fin w) : 4503599627370496 * wide ≤ mag w ↔ (4503599627370496 * (wide : Int) ≤ num w ∨ num w ≤ -(4503599627370496 * (wide : Int))) := by
  have hw := wide_pos
  unfold num
  generalize mag w = A
  generalize wide = W at hw ⊢
  cases neg w
  · simp only [Bool.false_eq_true, if_false]; omega
  · simp only [if_true]; omega

theorem near_bound {w : Nat} (h : told w = true) : -9223372036854775808 ≤ near w ∧ near w < 9223372036854775808 := by
  unfold told at h
  simp only [Bool.and_eq_true, decide_eq_true_eq] at h
  exact ⟨h.1.2, h.2⟩
end FloatPlain
