/- The nearest whole number by way of the whole part and what is left. (No program in sight.) -/
import Derived.Test.YtnaogcpcaabbhaaFaresPlain
namespace FloatPlain
open Ieee

theorem trunc_nat (w : Nat) : (truncW w).natAbs = mag w / wide := by
  unfold truncW
  generalize mag w / wide = Q
  split <;> omega

/-- what is left of the whole part -/
def left (w : Nat) : Int := if neg w then -((mag w % wide : Nat) : Int) else ((mag w % wide : Nat) : Int)

theorem left_is (w : Nat) : num w - truncW w * wide = left w := by
  have hd := Nat.div_add_mod (mag w) wide
  have hd' : (mag w : Int) = ((mag w / wide : Nat) : Int) * (wide : Int) + ((mag w % wide : Nat) : Int) := by
    rw [Int.mul_comm, ← Int.natCast_mul, ← Int.natCast_add, hd]
  unfold num truncW left
  rw [hd']
  generalize mag w / wide = Q
  generalize mag w % wide = R
  generalize wide = W
  cases neg w
  · simp only [Bool.false_eq_true, if_false]; omega
  · simp only [if_true]
    rw [Int.neg_mul]; omega

theorem trunc_word {w : Nat} (h : Fin w) : Fin (intW (truncW w)) ∧ num (intW (truncW w)) = truncW w * wide := by
  by_cases hg : 4503599627370496 * wide ≤ mag w
  · have hz := great_whole h hg
    have hd := Nat.div_add_mod (mag w) wide
    rw [hz] at hd
    obtain ⟨_, _, _, _, _, _, hv, hlt⟩ := fin_form h
    have e := write_num (decide (truncW w < 0)) (truncW w).natAbs (w % 9223372036854775808) hlt (by
      rw [trunc_nat, ← hv, Nat.mul_comm]; omega)
    have e2 : intW (truncW w) = double.word (decide (truncW w < 0)) (w % 9223372036854775808) := e
    rw [e2]
    refine ⟨(word_neg _ _ hlt).2.2, ?_⟩
    rw [word_num _ _ hlt, ← hv]
    have hm : mag w = (truncW w).natAbs * wide := by rw [trunc_nat, Nat.mul_comm]; omega
    rw [hm, Int.natCast_mul]
    by_cases hn : truncW w < 0
    · rw [if_pos (by simpa using hn)]
      have : ((truncW w).natAbs : Int) = -truncW w := by omega
      rw [this, Int.neg_mul, Int.neg_neg]
    · rw [if_neg (by simpa using hn)]
      have : ((truncW w).natAbs : Int) = truncW w := by omega
      rw [this]
  · have := trunc_bound (w := w) (by omega)
    have := intW_fin (n := truncW w) (by omega)
    exact ⟨this.1, this.2.1⟩

/-- what is left is told exactly -/
theorem trunc_law {w : Nat} (h : Fin w) : ∃ F, double.sub w (intW (truncW w)) = some F ∧ Fin F ∧ num F = left w := by
  obtain ⟨f1, f2⟩ := trunc_word h
  obtain ⟨r, s1, s2⟩ := sub_fin w (intW (truncW w)) h f1
  rw [f2, left_is] at s2
  have habs : (left w).natAbs = mag w % wide := by
    unfold left
    split <;> omega
  rw [habs] at s2
  obtain ⟨⟨k, k1, k2⟩, _⟩ := rest_rep h
  have hrk : r = k := s2.exact (Nat.le_of_lt k1) (by rw [k2, Nat.mul_one])
  rw [hrk] at s1
  refine ⟨_, s1, (word_neg _ _ k1).2.2, ?_⟩
  rw [word_num _ _ k1, k2]
  by_cases h0 : mag w % wide = 0
  · rw [h0]
    have : left w = 0 := by unfold left; rw [h0]; split <;> rfl
    rw [this]
    split <;> rfl
  · have hs : subNeg w (intW (truncW w)) = neg w := by
      unfold subNeg
      rw [f2, left_is]
      have hne : left w ≠ 0 := by omega
      rw [if_neg hne]
      unfold left
      cases neg w
      · simp only [Bool.false_eq_true, if_false]; rw [decide_eq_false_iff_not]; omega
      · simp only [if_true]; rw [decide_eq_true_iff]; omega
    rw [hs]; rfl

/-- which whole number is the nearest -/
theorem near_left (w : Nat) :
    (((H : Int) < left w ∨ (left w = H ∧ truncW w % 2 ≠ 0)) → near w = truncW w + 1) ∧
    ((left w < -(H : Int) ∨ (left w = -(H : Int) ∧ truncW w % 2 ≠ 0)) → near w = truncW w - 1) ∧
    (¬ ((H : Int) < left w ∨ (left w = H ∧ truncW w % 2 ≠ 0)) → ¬ (left w < -(H : Int) ∨ (left w = -(H : Int) ∧ truncW w % 2 ≠ 0)) → near w = truncW w) := by
  have hWH := wide_H
  have hH := H_pos
  have hm := Nat.mod_lt (mag w) wide_pos
  have hup : ∃ b : Bool, rhe (mag w) = mag w / wide + b.toNat ∧ (b = true ↔ (H < mag w % wide ∨ (mag w % wide = H ∧ mag w / wide % 2 = 1))) := by
    refine ⟨_, rfl, ?_⟩
    rw [Bool.or_eq_true, decide_eq_true_iff, Bool.and_eq_true, beq_iff_eq, beq_iff_eq]
    omega
  obtain ⟨b, hb, hbi⟩ := hup
  unfold near left truncW
  rw [hb]
  generalize mag w / wide = Q at *
  generalize mag w % wide = R at *
  cases b
  · have hbi' : ¬ (H < R ∨ (R = H ∧ Q % 2 = 1)) := fun h => by have := hbi.2 h; cases this
    cases neg w
    · simp only [Bool.false_eq_true, if_false, Bool.toNat_false]
      refine ⟨fun h => ?_, fun h => ?_, fun _ _ => ?_⟩ <;> omega
    · simp only [if_true, Bool.toNat_false]
      refine ⟨fun h => ?_, fun h => ?_, fun _ _ => ?_⟩ <;> omega
  · have hbi' := hbi.1 rfl
    cases neg w
    · simp only [Bool.false_eq_true, if_false, Bool.toNat_true]
      refine ⟨fun h => ?_, fun h => ?_, fun h _ => ?_⟩ <;> omega
    · simp only [if_true, Bool.toNat_true]
      refine ⟨fun h => ?_, fun h => ?_, fun _ h => ?_⟩ <;> omega

theorem trunc_range {w : Nat} (ht : told w = true) (h : Fin w) : -9223372036854775808 ≤ truncW w ∧ truncW w < 9223372036854775808 := by
  have e := told_fin h
  rw [ht] at e
  have e2 := e.symm
  simp only [Bool.and_eq_true, decide_eq_true_eq] at e2
  have hw := wide_pos
  have hm := Nat.mod_lt (mag w) hw
  have hl := left_is w
  obtain ⟨e3, e4⟩ := e2
  have hlb : -(wide : Int) < left w ∧ left w < wide := by
    unfold left
    split <;> omega
  have hsg : (neg w = true → left w ≤ 0 ∧ truncW w ≤ 0) ∧ (neg w = false → 0 ≤ left w ∧ 0 ≤ truncW w) := by
    unfold left truncW
    generalize mag w / wide = Q
    generalize mag w % wide = R
    constructor
    · intro h; rw [h]; simp only [if_true]; omega
    · intro h; rw [h]; simp only [Bool.false_eq_true, if_false]; omega
  have hW : (0 : Int) < wide := by omega
  constructor
  · by_cases hn : neg w = true
    · have h1 := hsg.1 hn
      have h2 : (-9223372036854775809) * (wide : Int) < truncW w * wide := by
        rw [show (-9223372036854775809 : Int) = -9223372036854775808 + -1 from rfl, Int.add_mul]; omega
      have := (Int.mul_lt_mul_right hW).1 h2
      omega
    · have := hsg.2 (by simpa using hn)
      omega
  · by_cases hn : neg w = true
    · have := hsg.1 hn
      omega
    · have h1 := hsg.2 (by simpa using hn)
      have h2 : truncW w * wide < 9223372036854775808 * (wide : Int) := by omega
      exact (Int.mul_lt_mul_right hW).1 h2
end FloatPlain
