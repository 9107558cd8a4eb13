/- How far a rounded value lies from the exact one. (No program in sight.) -/
import Derived.Test.YtnaogcpcaabbhaaUnitsPlain
namespace FloatPlain
open Ieee

/-- two words next to each other: no farther than one unit, or a small part of the lesser one -/
theorem gap (r : Nat) : val (r + 1) = val r + 1 ∨ val (r + 1) * 4503599627370496 ≤ val r * 4503599627370497 := by
  unfold val
  by_cases h : r + 1 < 4503599627370496
  · left; rw [if_pos h, if_pos (by omega)]
  · by_cases h2 : r < 4503599627370496
    · left
      have : r = 4503599627370495 := by omega
      subst this; decide
    · right
      rw [if_neg h2, if_neg h]
      by_cases c : r % 4503599627370496 = 4503599627370495
      · have e1 : (r + 1) % 4503599627370496 = 0 := by omega
        have e2 : (r + 1) / 4503599627370496 - 1 = (r / 4503599627370496 - 1) + 1 := by omega
        rw [e1, e2, c, Nat.pow_succ]
        have : 0 < 2 ^ (r / 4503599627370496 - 1) := Nat.two_pow_pos _
        omega
      · have e1 : (r + 1) % 4503599627370496 = r % 4503599627370496 + 1 := by omega
        have e2 : (r + 1) / 4503599627370496 = r / 4503599627370496 := by omega
        rw [e1, e2]
        generalize r % 4503599627370496 = m
        generalize 2 ^ (r / 4503599627370496 - 1) = p
        have e3 : (4503599627370496 + (m + 1)) * p * 4503599627370496 = ((4503599627370496 + m) * p) * 4503599627370496 + p * 4503599627370496 := by
          rw [show 4503599627370496 + (m + 1) = (4503599627370496 + m) + 1 from rfl, Nat.add_mul, Nat.one_mul, Nat.add_mul]
        have e4 : (4503599627370496 + m) * p = 4503599627370496 * p + m * p := Nat.add_mul _ _ _
        rw [e3, e4]
        generalize m * p = mp
        omega

theorem mrc (a b L M B : Nat) (h : a * L ≤ b * M) : a * B * L ≤ b * B * M := by
  have := Nat.mul_le_mul_right B h
  rwa [Nat.mul_right_comm a L B, Nat.mul_right_comm b M B] at this

theorem up_gen (X Y A B L M : Nat) (h : X < A) (g : Y * L ≤ X * M) : Y * L ≤ A * M + B * L := Nat.le_trans g (Nat.le_trans (Nat.mul_le_mul_right _ (Nat.le_of_lt h)) (Nat.le_add_right _ _))
theorem down_gen (X Y A B L M : Nat) (h : A ≤ Y) (g : Y * L ≤ X * M) : A * L ≤ X * M + B * L := Nat.le_trans (Nat.le_trans (Nat.mul_le_mul_right _ h) g) (Nat.le_add_right _ _)

theorem near_up {r A B : Nat} (h : Near r A B) : val r * B * 4503599627370496 ≤ A * 4503599627370497 + B * 4503599627370496 := by
  cases r with
  | zero => rw [val_zero]; omega
  | succ s =>
    have h1 : val s * B < A := by
      rcases Nat.lt_or_ge (val s * B) A with c | c
      · exact c
      · have := h.below s c; omega
    rcases gap s with g | g
    · rw [g, Nat.add_mul, Nat.one_mul]
      generalize val s * B = X at h1
      omega
    · have g2 := mrc _ _ _ _ B g
      exact up_gen _ _ _ _ _ _ h1 g2

theorem near_down {r A B : Nat} (h : Near r A B) (hr : r < inf) : A * 4503599627370496 ≤ val r * B * 4503599627370497 + B * 4503599627370496 := by
  have h1 : A ≤ val (r + 1) * B := by
    rcases Nat.lt_or_ge A (val (r + 1) * B) with c | c
    · omega
    · have := h.above (r + 1) (by omega) c; omega
  rcases gap r with g | g
  · rw [g, Nat.add_mul, Nat.one_mul] at h1
    generalize val r * B = X at h1 ⊢
    omega
  · have g2 := mrc _ _ _ _ B g
    exact down_gen _ _ _ _ _ _ h1 g2

/-- one step on of a multiple is never rounded below it -/
theorem near_step {r r' u P B : Nat} (h : Near r (u * (P * B)) B) (h' : Near r' ((u + 1) * (P * B)) B) (hu : u ≤ 4503599627370494) : r ≤ r' := by
  rcases Nat.lt_or_ge r' r with c | c
  · exfalso
    obtain ⟨s, rfl⟩ : ∃ s, r = s + 1 := ⟨r - 1, by omega⟩
    have h1 : val s * B < u * (P * B) := by
      rcases Nat.lt_or_ge (val s * B) (u * (P * B)) with c1 | c1
      · exact c1
      · have := h.below s c1; omega
    have h2 : (u + 1) * (P * B) < val (s + 1) * B := by
      rcases Nat.lt_or_ge ((u + 1) * (P * B)) (val (s + 1) * B) with c1 | c1
      · exact c1
      · have := h'.above (s + 1) h.top c1; omega
    have e1 : u * (P * B) = u * P * B := (Nat.mul_assoc _ _ _).symm
    have e2 : (u + 1) * (P * B) = (u + 1) * P * B := (Nat.mul_assoc _ _ _).symm
    rw [e1] at h1
    rw [e2] at h2
    have h3 := Nat.lt_of_mul_lt_mul_right h1
    have h4 := Nat.lt_of_mul_lt_mul_right h2
    rw [Nat.add_mul, Nat.one_mul] at h4
    rcases gap s with g | g
    · omega
    · have h5 : u * P ≤ 4503599627370494 * P := Nat.mul_le_mul_right _ hu
      omega
  · exact c
end FloatPlain
