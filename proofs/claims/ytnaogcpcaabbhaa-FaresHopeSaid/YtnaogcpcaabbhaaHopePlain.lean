/- Values of few classes: one seat more is not worth less, nor more than the price, but for an error. (No program in sight.) -/
import Derived.Test.YtnaogcpcaabbhaaSurePlain
namespace FloatPlain
open Ieee

/-- the greatest error of a rounding below 2^15 -/
def ep : Nat := pow2 1038
theorem wide_ep : wide = 68719476736 * ep := by
  unfold wide ep
  rw [show (68719476736 : Nat) = pow2 36 from by decide]
  exact (pow2_add_eq 36 1038 1074 (by omega)).symm
theorem ep_big : 4 ≤ ep := by
  have h : pow2 2 ≤ pow2 1038 := pow2_le (by omega)
  have h2 : pow2 2 = 4 := by decide
  unfold ep
  omega

theorem arith_up (X A B Y L K : Nat) (h : X * L ≤ A * L + A + B * L) (hA : A ≤ K * Y) (hB : 4 * B ≤ Y) (hL : L = 2 * K) (hK : 0 < K) : X ≤ A + Y := by
  subst hL
  have h1 : 4 * (B * (2 * K)) ≤ Y * (2 * K) := by rw [← Nat.mul_assoc]; exact Nat.mul_le_mul_right _ hB
  have h2 : Y * (2 * K) = 2 * (K * Y) := by rw [Nat.mul_comm Y, Nat.mul_assoc]
  have h3 : (A + Y) * (2 * K) = A * (2 * K) + Y * (2 * K) := Nat.add_mul _ _ _
  have h4 : X * (2 * K) ≤ (A + Y) * (2 * K) := by
    rw [h3]
    generalize A * (2 * K) = a at *
    generalize B * (2 * K) = b at *
    generalize Y * (2 * K) = y at *
    generalize K * Y = k at *
    omega
  exact Nat.le_of_mul_le_mul_right h4 (by omega)
theorem arith_down (X A B Y L K : Nat) (h : A * L ≤ X * L + X + B * L) (hX : X ≤ K * Y + Y) (hB : 4 * B ≤ Y) (hL : L = 2 * K) (hK : 2 ≤ K) : A ≤ X + Y := by
  subst hL
  have h1 : 4 * (B * (2 * K)) ≤ Y * (2 * K) := by rw [← Nat.mul_assoc]; exact Nat.mul_le_mul_right _ hB
  have h2 : Y * (2 * K) = 2 * (K * Y) := by rw [Nat.mul_comm Y, Nat.mul_assoc]
  have h3 : (X + Y) * (2 * K) = X * (2 * K) + Y * (2 * K) := Nat.add_mul _ _ _
  have h5 : 2 * Y ≤ K * Y := Nat.mul_le_mul_right _ hK
  have h4 : A * (2 * K) ≤ (X + Y) * (2 * K) := by
    rw [h3]
    generalize A * (2 * K) = a at *
    generalize X * (2 * K) = x at *
    generalize B * (2 * K) = b at *
    generalize Y * (2 * K) = y at *
    generalize K * Y = k at *
    omega
  exact Nat.le_of_mul_le_mul_right h4 (by omega)

theorem near_ep {r A B : Nat} (h : Near r A B) (hr : r < inf) (hA : A ≤ 32768 * (wide * B)) : val r * B ≤ A + ep * B ∧ A ≤ val r * B + ep * B := by
  have u := near_up h
  have d := near_down h hr
  have hw : 32768 * (wide * B) = 2251799813685248 * (ep * B) := by
    rw [wide_ep, Nat.mul_assoc 68719476736, ← Nat.mul_assoc 32768]
  rw [hw] at hA
  have hB : 4 * B ≤ ep * B := Nat.mul_le_mul_right _ ep_big
  have up := arith_up (val r * B) A B (ep * B) 4503599627370496 2251799813685248 (by
    rw [show (4503599627370497 : Nat) = 4503599627370496 + 1 from rfl, Nat.mul_add, Nat.mul_one] at u
    exact u) hA hB rfl (by decide)
  refine ⟨up, ?_⟩
  exact arith_down (val r * B) A B (ep * B) 4503599627370496 2251799813685248 (by
    rw [show (4503599627370497 : Nat) = 4503599627370496 + 1 from rfl, Nat.mul_add, Nat.mul_one] at d
    exact d) (Nat.le_trans up (Nat.add_le_add_right hA _)) hB rfl (by decide)

theorem add_near {a b : Nat} (ha : Pos a) (hb : Pos b) : Near (fadd a b) (val a + val b) 1 := by
  obtain ⟨r, h1, h2⟩ := add_fin a b ha.fin hb.fin
  rw [ha.num, hb.num] at h2
  have e : ((val a : Int) + (val b : Int)).natAbs = val a + val b := by omega
  rw [e] at h2
  have hs : sumNeg a b = false := by
    unfold sumNeg
    rw [ha.num, hb.num, ha.neg]
    split
    · rfl
    · rw [decide_eq_false_iff_not]; omega
  rw [hs, word_false] at h1
  have hf : fadd a b = r := by unfold fadd; rw [h1]; rfl
  rw [hf]; exact h2
theorem mul_near {a b : Nat} (ha : Pos a) (hb : Pos b) : Near (fmul a b) (val a * val b) wide := by
  obtain ⟨r, h1, h2⟩ := mul_fin a b ha.fin hb.fin
  rw [ha.mag, hb.mag, ha.neg, hb.neg] at *
  rw [Bool.xor_self, word_false] at h1
  have hf : fmul a b = r := by unfold fmul; rw [h1]; rfl
  rw [hf]; exact h2

/-! whole numbers -/
theorem int_word {n k : Nat} (hn : n < 9007199254740992) (hk : Pos k) (h : val k = n * wide) : k = intW (n : Int) := by
  obtain ⟨p, v⟩ := intW_pos hn
  exact val_inj (by rw [h, v])
theorem fmul_int {u p : Nat} (hu : u < 9007199254740992) (hp : p < 9007199254740992) (h : u * p < 9007199254740992) : fmul (intW (u : Int)) (intW (p : Int)) = intW ((u * p : Nat) : Int) := by
  obtain ⟨a1, a2⟩ := intW_pos hu
  obtain ⟨b1, b2⟩ := intW_pos hp
  obtain ⟨c1, c2⟩ := intW_pos h
  have n := mul_near a1 b1
  exact n.exact (Nat.le_of_lt c1) (by
    rw [a2, b2, c2]
    rw [Nat.mul_mul_mul_comm, Nat.mul_assoc (u * p)])
theorem fadd_int {u p : Nat} (hu : u < 9007199254740992) (hp : p < 9007199254740992) (h : u + p < 9007199254740992) : double.add (intW (u : Int)) (intW (p : Int)) = some (intW ((u + p : Nat) : Int)) := by
  obtain ⟨a1, a2⟩ := intW_pos hu
  obtain ⟨b1, b2⟩ := intW_pos hp
  obtain ⟨c1, c2⟩ := intW_pos h
  have n := add_near a1 b1
  have e : fadd (intW (u : Int)) (intW (p : Int)) = intW ((u + p : Nat) : Int) := n.exact (Nat.le_of_lt c1) (by rw [a2, b2, c2, Nat.mul_one, Nat.add_mul])
  rw [← e]
  exact (add_pos a1 b1.nn (k := intW ((u + p : Nat) : Int)) (by rw [b1.mag, a2, b2, c2, Nat.add_mul]; exact Nat.le_refl _)).1
theorem fsub_int {u p : Nat} (hu : u < 9007199254740992) (hp : p ≤ u) : double.sub (intW (u : Int)) (intW (p : Int)) = some (intW ((u - p : Nat) : Int)) := by
  obtain ⟨a1, a2⟩ := intW_pos hu
  obtain ⟨b1, b2⟩ := intW_pos (k := p) (by omega)
  obtain ⟨c1, c2⟩ := intW_pos (k := u - p) (by omega)
  obtain ⟨r, h1, h2⟩ := sub_fin _ _ a1.fin b1.fin
  rw [a1.num, b1.num, a2, b2] at h2
  have hle : p * wide ≤ u * wide := Nat.mul_le_mul_right _ hp
  have e : (((u * wide : Nat) : Int) - ((p * wide : Nat) : Int)).natAbs = (u - p) * wide := by rw [Nat.sub_mul]; omega
  rw [e] at h2
  have hr : r = intW ((u - p : Nat) : Int) := h2.exact (Nat.le_of_lt c1) (by rw [c2, Nat.mul_one])
  have hs : subNeg (intW (u : Int)) (intW (p : Int)) = false := by
    unfold subNeg
    rw [a1.num, b1.num, a2, b2, a1.neg]
    split
    · rfl
    · rw [decide_eq_false_iff_not]; omega
  rw [hs, word_false, hr] at h1
  exact h1

/-! a row with an error -/
structure RowE (w : List Nat) (s p0 E : Nat) : Prop where
  pos : ∀ x, Pos (at0 w x)
  zero : at0 w 0 = 0
  mono : ∀ x, x < s → val (at0 w x) ≤ val (at0 w (x + 1)) + E
  lip : ∀ x, x < s → val (at0 w (x + 1)) ≤ val (at0 w x) + p0 * wide + E

theorem RowE.bound {w : List Nat} {s p0 E : Nat} (h : RowE w s p0 E) : ∀ x, x ≤ s → val (at0 w x) ≤ x * (p0 * wide + E) := by
  intro x
  induction x with
  | zero => intro _; rw [h.zero, val_zero]; omega
  | succ x ih =>
    intro hx
    have h1 := ih (by omega)
    have h2 := h.lip x (by omega)
    rw [Nat.add_mul, Nat.one_mul]
    omega

def csum (cs : List Nat) : Nat → Nat
  | 0 => 0
  | k + 1 => csum cs k + val (at0 cs k)

theorem vK_le_best {P : Nat} {w : List Nat} {x : Nat} : ∀ k u, u ≤ k → u ≤ x → vK P w x u ≤ bestK P w x k := by
  intro k
  induction k with
  | zero => intro u h _; rw [show u = 0 from by omega]; exact Nat.le_refl _
  | succ k ih =>
    intro u h hx
    show _ ≤ (if k + 1 ≤ x then max (bestK P w x k) (vK P w x (k + 1)) else bestK P w x k)
    by_cases e : u = k + 1
    · subst e
      rw [if_pos hx]; exact Nat.le_max_right _ _
    · have := ih u (by omega) hx
      split
      · exact Nat.le_trans this (Nat.le_max_left _ _)
      · exact this
theorem best_mono {P : Nat} {w : List Nat} {x k : Nat} : bestK P w x k ≤ bestK P w x (k + 1) := by
  show _ ≤ (if k + 1 ≤ x then max (bestK P w x k) (vK P w x (k + 1)) else bestK P w x k)
  split
  · exact Nat.le_max_left _ _
  · exact Nat.le_refl _
end FloatPlain
