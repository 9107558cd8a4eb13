import Derived.Test.YtnaogcpcaabbhaaFloatPos
namespace FloatPlain
open Ieee

theorem cmp_lt {a b : Nat} (ha : Fin a) (hb : Fin b) : (double.order a b == some .lt) = decide (num a < num b) := by
  rw [order_fin a b ha hb]
  unfold compare instOrdInt compareOfLessAndEq
  dsimp only
  split
  · rename_i h; simp [h]
  · rename_i h
    split <;> simp [h]
theorem cmp_eq {a b : Nat} (ha : Fin a) (hb : Fin b) : (double.order a b == some .eq) = decide (num a = num b) := by
  rw [order_fin a b ha hb]
  unfold compare instOrdInt compareOfLessAndEq
  dsimp only
  split
  · rename_i h
    have : ¬ num a = num b := by omega
    simp [this]
  · split
    · rename_i h; simp [h]
    · rename_i h; simp [h]
theorem cmp_gt {a b : Nat} (ha : Fin a) (hb : Fin b) : (double.order a b == some .gt) = decide (num b < num a) := by
  rw [order_fin a b ha hb]
  unfold compare instOrdInt compareOfLessAndEq
  dsimp only
  split
  · rename_i h
    have : ¬ num b < num a := by omega
    simp [this]
  · split
    · rename_i h
      have : ¬ num b < num a := by omega
      simp [this]
    · rename_i h1 h2
      have : num b < num a := by omega
      simp [this]

theorem num_pos_lt {a b : Nat} (ha : Pos a) (hb : Pos b) : num a < num b ↔ a < b := by
  rw [ha.num, hb.num]
  constructor
  · intro h
    rcases Nat.lt_or_ge a b with c | c
    · exact c
    · have := val_le c; omega
  · intro h; have := val_lt h; omega

/-! every word: a finite one, an infinity, a NaN -/
def Inf (w : Nat) : Prop := w % 9223372036854775808 = inf ∧ w < 18446744073709551616
def Nan (w : Nat) : Prop := inf < w % 9223372036854775808 ∧ w < 18446744073709551616

theorem three (w : Nat) (h : w < 18446744073709551616) : Fin w ∨ Inf w ∨ Nan w := by
  unfold Fin Inf Nan inf; omega

theorem read_inf (w : Nat) (h : Inf w) : double.read w = .infinity (neg w) := by
  obtain ⟨h1, h2⟩ := h
  unfold inf at h1
  have hn : (w / 9223372036854775808 % 2 == 1) = neg w := by
    unfold neg
    rw [Bool.eq_iff_iff, beq_iff_eq, decide_eq_true_iff]
    omega
  unfold Format.read
  dsimp only
  rw [dbl_binade, dbl_inf, dbl_sign, hn, if_neg (by omega), if_neg (by omega), if_pos h1]

theorem read_nan (w : Nat) (h : Nan w) : double.read w = .nan (neg w) (w % 9223372036854775808 - inf) := by
  obtain ⟨h1, h2⟩ := h
  unfold inf at h1
  have hn : (w / 9223372036854775808 % 2 == 1) = neg w := by
    unfold neg
    rw [Bool.eq_iff_iff, beq_iff_eq, decide_eq_true_iff]
    omega
  unfold Format.read
  dsimp only
  rw [dbl_binade, dbl_inf, dbl_sign, hn, if_neg (by omega), if_neg (by omega), if_neg (by omega)]
  rfl

theorem order_nan (a b : Nat) (h : Nan a) : double.order a b = none := by
  unfold Format.order
  rw [read_nan a h]
  unfold Datum.order; rfl

theorem order_nan' (a b : Nat) (h : Nan b) : double.order a b = none := by
  unfold Format.order
  rw [read_nan b h]
  cases double.read a <;> rfl

theorem order_inf (a b : Nat) (h : Inf a) (hb : Fin b) : double.order a b = some (if neg a then .lt else .gt) := by
  obtain ⟨n, j, ry, vy⟩ := read_fin b hb
  unfold Format.order
  rw [read_inf a h, ry]
  rfl

theorem order_inf' (a b : Nat) (h : Inf b) (ha : Fin a) : double.order a b = some (if neg b then .gt else .lt) := by
  obtain ⟨n, j, ry, vy⟩ := read_fin a ha
  unfold Format.order
  rw [read_inf b h, ry]
  rfl

theorem Fin.num_nonneg_iff {w : Nat} (h : Fin w) : 0 ≤ num w ↔ Nn w := by
  constructor
  · intro h0
    unfold num at h0
    cases hn : neg w
    · left; unfold neg at hn; rw [decide_eq_false_iff_not] at hn; unfold Fin at h; unfold Pos; omega
    · rw [hn, if_pos rfl] at h0
      right
      unfold neg at hn; rw [decide_eq_true_iff] at hn
      unfold Fin at h
      have hm : mag w = 0 := by omega
      unfold mag at hm
      have : w % 9223372036854775808 = 0 := by
        rcases Nat.eq_zero_or_pos (w % 9223372036854775808) with z | z
        · exact z
        · have := val_lt z; omega
      unfold negz; omega
  · intro h0
    rw [h0.num]; omega

/-- is it a likelihood: as the program, and the reference, ask -/
def likB (p : Nat) : Bool := (double.order p 0 == some .gt || double.order p 0 == some .eq) && (double.order p one == some .lt || double.order p one == some .eq)

theorem zero_pos : Pos 0 := by unfold Pos inf; omega

theorem likB_iff (p : Nat) (h : p < 18446744073709551616) : likB p = true ↔ Lik p := by
  unfold likB
  rcases three p h with f | f | f
  · rw [cmp_gt f zero_pos.fin, cmp_eq f zero_pos.fin, cmp_lt f one_pos.fin, cmp_eq f one_pos.fin, zero_pos.num, one_pos.num, val_zero]
    simp only [Bool.and_eq_true, Bool.or_eq_true, decide_eq_true_eq]
    have hnn := f.num_nonneg_iff
    constructor
    · rintro ⟨a, b⟩
      have h0 : Nn p := hnn.1 (by omega)
      rcases h0 with q | q
      · left
        rw [q.num] at b
        exact le_of_val (by omega)
      · exact Or.inr q
    · intro l
      have h1 := l.nn
      rw [h1.num]
      have := l.mag_le
      have := val_one
      omega
  · rw [order_inf p 0 f zero_pos.fin, order_inf p one f one_pos.fin]
    have : ¬ Lik p := by
      unfold Lik Inf inf at *; unfold one negz; omega
    cases neg p <;> simp [this]
  · rw [order_nan p 0 f, order_nan p one f]
    have : ¬ Lik p := by
      unfold Lik Nan inf at *; unfold one negz; omega
    simp [this]

end FloatPlain
