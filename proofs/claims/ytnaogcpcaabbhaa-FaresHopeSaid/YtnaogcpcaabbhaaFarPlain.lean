/- How far the nearest whole number lies. (No program in sight.) -/
import Derived.Test.YtnaogcpcaabbhaaNearPlain
namespace FloatPlain
open Ieee

theorem rhe_zero {A : Nat} (h : A < H) : rhe A = 0 := by
  have hw := wide_H
  have hd : A / wide = 0 := Nat.div_eq_of_lt (by omega)
  have hm : A % wide = A := Nat.mod_eq_of_lt (by omega)
  unfold rhe
  rw [hd, hm]
  have a1 : ¬ wide < 2 * A := by omega
  simp [a1]

/-- the size of what is left over, the tie's rule -/
theorem rhe_far (A : Nat) : (rhe A = A / wide ∧ 2 * (A % wide) ≤ wide ∧ (2 * (A % wide) = wide → rhe A % 2 = 0)) ∨ (rhe A = A / wide + 1 ∧ wide ≤ 2 * (A % wide) ∧ (2 * (A % wide) = wide → rhe A % 2 = 0)) := by
  unfold rhe
  by_cases c : wide < 2 * (A % wide) ∨ (wide = 2 * (A % wide) ∧ A / wide % 2 = 1)
  · have e1 : (decide (wide < 2 * (A % wide)) || (wide == 2 * (A % wide) && A / wide % 2 == 1)) = true := by
      rw [Bool.or_eq_true, decide_eq_true_iff, Bool.and_eq_true, beq_iff_eq, beq_iff_eq]; exact c
    rw [e1]
    right
    simp only [Bool.toNat_true]
    generalize A / wide = Q at c ⊢
    generalize A % wide = R at c ⊢
    refine ⟨trivial, ?_, fun h => ?_⟩
    · rcases c with c | c <;> omega
    · rcases c with c | c <;> omega
  · have e1 : (decide (wide < 2 * (A % wide)) || (wide == 2 * (A % wide) && A / wide % 2 == 1)) = false := by
      rw [Bool.eq_false_iff]
      intro h
      rw [Bool.or_eq_true, decide_eq_true_iff, Bool.and_eq_true, beq_iff_eq, beq_iff_eq] at h
      exact c h
    rw [e1]
    left
    obtain ⟨c1, c2⟩ := not_or.1 c
    simp only [Bool.toNat_false]
    generalize A / wide = Q at c2 ⊢
    generalize A % wide = R at c1 c2 ⊢
    refine ⟨by omega, by omega, fun h => ?_⟩
    omega

theorem near_abs (w : Nat) : (near w).natAbs = rhe (mag w) := by
  unfold near
  split <;> omega

theorem near_small {w : Nat} (hs : mag w < 4503599627370496 * wide) : (near w).natAbs ≤ 4503599627370496 := by
  rw [near_abs]
  have h1 : mag w / wide < 4503599627370496 := by rwa [Nat.div_lt_iff_lt_mul wide_pos]
  have := rhe_le (mag w)
  omega

/-- how far off, in units -/
def off (w : Nat) : Nat := if rhe (mag w) = mag w / wide then mag w % wide else wide - mag w % wide

theorem off_is (w : Nat) : (num w - near w * wide).natAbs = off w ∧ 2 * off w ≤ wide ∧ (2 * off w = wide → near w % 2 = 0) := by
  have hw := wide_pos
  have hm := Nat.mod_lt (mag w) hw
  have hd := Nat.div_add_mod (mag w) wide
  have hd' : (mag w : Int) = ((mag w / wide : Nat) : Int) * (wide : Int) + ((mag w % wide : Nat) : Int) := by
    rw [Int.mul_comm, ← Int.natCast_mul, ← Int.natCast_add, hd]
  have hf := rhe_far (mag w)
  unfold num near off
  rw [hd']
  generalize rhe (mag w) = E at hf ⊢
  generalize mag w / wide = Q at hf ⊢
  generalize mag w % wide = R at hm hf ⊢
  generalize wide = W at hw hm hf ⊢
  rcases hf with ⟨e1, e2, e3⟩ | ⟨e1, e2, e3⟩
  · subst e1
    rw [if_pos rfl]
    cases neg w
    · simp only [Bool.false_eq_true, if_false]
      refine ⟨by omega, e2, fun h => ?_⟩
      have := e3 h; omega
    · simp only [if_true, Int.neg_mul]
      refine ⟨by omega, e2, fun h => ?_⟩
      have := e3 h; omega
  · subst e1
    have e9 : ¬ (Q + 1 = Q) := by omega
    simp only [e9, if_false]
    have hx : (((Q + 1 : Nat) : Int)) * (W : Int) = (Q : Int) * W + W := by
      rw [Int.natCast_add, Int.add_mul]; simp
    cases neg w
    · simp only [Bool.false_eq_true, if_false]
      refine ⟨by rw [hx]; omega, by omega, fun h => ?_⟩
      have := e3 (by omega); omega
    · simp only [if_true, Int.neg_mul]
      refine ⟨by rw [hx]; omega, by omega, fun h => ?_⟩
      have := e3 (by omega); omega

/-- what is off is told exactly -/
theorem off_rep {w : Nat} (h : Fin w) : ∃ k, k < inf ∧ val k = off w := by
  obtain ⟨h1, h2⟩ := rest_rep h
  unfold off
  by_cases c : rhe (mag w) = mag w / wide
  · rw [if_pos c]; exact h1
  · rw [if_neg c]
    rcases h2 with h2 | h2
    · exact h2
    · exfalso
      apply c
      rw [rhe_zero h2]
      have := wide_H
      exact (Nat.div_eq_of_lt (by omega)).symm

theorem far_law {w : Nat} (h : Fin w) (hs : mag w < 4503599627370496 * wide) :
    ∃ F, double.sub w (intW (near w)) = some F ∧ Fin F ∧ -(H : Int) ≤ num F ∧ num F ≤ H ∧ ((num F = H ∨ num F = -(H : Int)) → near w % 2 = 0) := by
  have hn := near_small hs
  obtain ⟨f1, f2, f3⟩ := intW_fin (n := near w) (by omega)
  obtain ⟨o1, o2, o3⟩ := off_is w
  obtain ⟨k, k1, k2⟩ := off_rep h
  obtain ⟨r, s1, s2⟩ := sub_fin w (intW (near w)) h f1
  rw [f2, o1] at s2
  have hrk : r = k := s2.exact (Nat.le_of_lt k1) (by rw [k2, Nat.mul_one])
  rw [hrk] at s1
  obtain ⟨_, _, g3⟩ := word_neg (subNeg w (intW (near w))) k k1
  have g4 := word_num (subNeg w (intW (near w))) k k1
  have hWH := wide_H
  refine ⟨_, s1, g3, ?_⟩
  rw [g4, k2]
  generalize off w = D at o2 o3
  cases subNeg w (intW (near w))
  · simp only [Bool.false_eq_true, if_false]
    refine ⟨by omega, by omega, fun h => o3 ?_⟩
    have := H_pos
    omega
  · simp only [if_true]
    refine ⟨by omega, by omega, fun h => o3 ?_⟩
    have := H_pos
    omega

/-- turned -/
theorem turned {w v : Nat} (hw : w < 18446744073709551616) (h1 : v % 9223372036854775808 = w % 9223372036854775808) (h2 : v / 9223372036854775808 = 1 - w / 9223372036854775808) (hs : told w = true) (hb : (near w).natAbs ≤ 4503599627370496) :
    nv v = - near w ∧ ne v = 0 := by
  have hm : mag v = mag w := by unfold mag; rw [h1]
  have hn : near v = - near w := by
    unfold near
    rw [hm]
    have e : neg v = !neg w := by
      unfold neg
      rw [Bool.eq_iff_iff]
      simp only [decide_eq_true_eq, Bool.not_eq_true', decide_eq_false_iff_not]
      omega
    rw [e]
    cases neg w <;> simp
  have ht : told v = true := by
    unfold told at hs ⊢
    rw [h1, hn]
    simp only [Bool.and_eq_true, decide_eq_true_eq] at hs ⊢
    omega
  unfold nv ne
  rw [ht, hn]
  exact ⟨rfl, rfl⟩

/-- a whole number's word tells itself -/
theorem whole_told {n : Int} (h : n.natAbs ≤ 4503599627370496) : nv (intW n) = n ∧ ne (intW n) = 0 := by
  obtain ⟨k, k1, k2, e⟩ := intW_is (n := n) (by omega)
  obtain ⟨a, b, c⟩ := word_neg (decide (n < 0)) k k1
  have hn : near (intW n) = n := by
    unfold near
    rw [e, a, b, k2]
    have hr : rhe (n.natAbs * wide) = n.natAbs := by
      rw [rhe_whole (Nat.mul_mod_left _ _), Nat.mul_div_cancel _ wide_pos]
    rw [hr]
    by_cases h0 : n < 0
    · rw [if_pos (by simpa using h0)]; omega
    · rw [if_neg (by simpa using h0)]; omega
  have ht : told (intW n) = true := by
    unfold told
    rw [hn]
    have := c.1
    rw [← e] at this
    simp only [Bool.and_eq_true, decide_eq_true_eq]
    omega
  unfold nv ne
  rw [ht, hn]
  exact ⟨rfl, rfl⟩
end FloatPlain
