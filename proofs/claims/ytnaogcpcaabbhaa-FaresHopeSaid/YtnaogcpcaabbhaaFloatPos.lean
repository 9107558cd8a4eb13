import Derived.Test.YtnaogcpcaabbhaaFloatPlain
namespace FloatPlain
open Ieee

def fadd (a b : Nat) : Nat := (double.add a b).getD 0
def fsub (a b : Nat) : Nat := (double.sub a b).getD 0
def fmul (a b : Nat) : Nat := (double.mul a b).getD 0

def one : Nat := 4607182418800017408
def negz : Nat := 9223372036854775808

/-- finite, its sign bit not set -/
def Pos (w : Nat) : Prop := w < inf
/-- the same, or -0 -/
def Nn (w : Nat) : Prop := Pos w ∨ w = negz

theorem Pos.fin {w : Nat} (h : Pos w) : Fin w := by
  unfold Pos at h; unfold Fin; unfold inf at *; omega
theorem negz_fin : Fin negz := by unfold Fin negz inf; omega
theorem Nn.fin {w : Nat} (h : Nn w) : Fin w := by
  rcases h with h | h
  · exact h.fin
  · rw [h]; exact negz_fin
theorem Pos.nn {w : Nat} (h : Pos w) : Nn w := Or.inl h

theorem Pos.neg {w : Nat} (h : Pos w) : neg w = false := by
  unfold Pos inf at h; unfold FloatPlain.neg; rw [decide_eq_false_iff_not]; omega
theorem Pos.mag {w : Nat} (h : Pos w) : mag w = val w := by
  unfold Pos inf at h; unfold FloatPlain.mag; rw [Nat.mod_eq_of_lt (by omega)]
theorem Pos.num {w : Nat} (h : Pos w) : num w = val w := by
  unfold FloatPlain.num; rw [h.neg, h.mag]; rfl
theorem negz_neg : neg negz = true := by decide
theorem negz_mag : mag negz = 0 := by decide
theorem negz_num : num negz = 0 := by decide
theorem Nn.num {w : Nat} (h : Nn w) : num w = mag w := by
  rcases h with h | h
  · rw [h.num, h.mag]
  · rw [h, negz_num, negz_mag]; rfl

theorem pow2_pos (n : Nat) : 0 < pow2 n := Nat.two_pow_pos _

/-- the rung of 2^n -/
def two (n : Nat) : Nat := (1023 + n) * 4503599627370496

theorem val_two_pow (n : Nat) : val (two n) = pow2 (1074 + n) := by
  have h := val_made (1022 + n) 4503599627370496 (by omega) (Or.inr (Nat.le_refl _))
  rw [show (1022 + n) * 4503599627370496 + 4503599627370496 = two n from by unfold two; omega] at h
  rw [h, ← two52, ← Nat.pow_add]
  unfold pow2
  congr 1
  omega

theorem two_zero : two 0 = one := rfl

theorem val_one : val one = wide := val_two_pow 0

theorem add_pos {a b k : Nat} (ha : Pos a) (hb : Nn b) (h : val a + mag b ≤ val k) :
    double.add a b = some (fadd a b) ∧ fadd a b ≤ k ∧ a ≤ fadd a b := by
  obtain ⟨r, h1, h2⟩ := add_fin a b ha.fin hb.fin
  rw [ha.num, hb.num] at h2
  have e : ((val a : Int) + (mag b : Int)).natAbs = val a + mag b := by omega
  rw [e] at h2
  have hs : sumNeg a b = false := by
    unfold sumNeg
    rw [ha.num, hb.num, ha.neg]
    split
    · rfl
    · rw [decide_eq_false_iff_not]; omega
  rw [hs, word_false] at h1
  have hf : fadd a b = r := by unfold fadd; rw [h1]; rfl
  rw [hf]
  exact ⟨h1, h2.below k (by omega), h2.above a (Nat.le_of_lt ha) (by omega)⟩

theorem add_negz {a : Nat} (ha : Pos a) : fadd a negz = a := by
  obtain ⟨r, h1, h2⟩ := add_fin a negz ha.fin negz_fin
  rw [ha.num, negz_num] at h2
  have e : ((val a : Int) + 0).natAbs = val a * 1 := by omega
  have hr := h2.exact (k := a) (Nat.le_of_lt ha) e
  have hs : sumNeg a negz = false := by
    unfold sumNeg
    rw [ha.num, negz_num, ha.neg]
    split
    · rfl
    · rw [decide_eq_false_iff_not]; omega
  rw [hs, word_false, hr] at h1
  unfold fadd; rw [h1]; rfl

theorem add_zero {a : Nat} (ha : Pos a) : fadd a 0 = a := by
  have hz : Pos 0 := by unfold Pos inf; omega
  obtain ⟨h1, h2, h3⟩ := add_pos ha hz.nn (k := a) (by rw [hz.mag, val_zero]; omega)
  omega

theorem mul_nn {a b k : Nat} (ha : Pos a) (hb : Nn b) (hk : k < inf) (h : val a * mag b ≤ val k * wide) :
    double.mul a b = some (fmul a b) ∧ Nn (fmul a b) ∧ mag (fmul a b) ≤ val k ∧ (Pos b → fmul a b ≤ k) := by
  obtain ⟨r, h1, h2⟩ := mul_fin a b ha.fin hb.fin
  rw [ha.mag, ha.neg] at *
  have hle := h2.below k h
  rcases hb with hb | hb
  · rw [hb.neg, Bool.xor_self, word_false] at h1
    have hf : fmul a b = r := by unfold fmul; rw [h1]; rfl
    rw [hf]
    have hp : Pos r := Nat.lt_of_le_of_lt hle hk
    exact ⟨h1, hp.nn, by rw [hp.mag]; exact val_le hle, fun _ => hle⟩
  · subst hb
    rw [negz_neg] at h1
    have hr : r = 0 := h2.exact (k := 0) (Nat.zero_le _) (by rw [negz_mag, val_zero]; omega)
    rw [hr] at h1
    have hw : double.word (false ^^ true) 0 = negz := by decide
    rw [hw] at h1
    have hf : fmul a negz = negz := by unfold fmul; rw [h1]; rfl
    rw [hf]
    exact ⟨h1, Or.inr rfl, by rw [negz_mag]; exact Nat.zero_le _, fun h => by unfold Pos negz inf at h; omega⟩

theorem wide_pos : 0 < wide := pow2_pos 1074

/-- times a likelihood: no greater -/
theorem mul_le_one {a b : Nat} (ha : Pos a) (hb : Nn b) (h1 : mag b ≤ wide) :
    double.mul a b = some (fmul a b) ∧ Nn (fmul a b) ∧ mag (fmul a b) ≤ val a ∧ (Pos b → fmul a b ≤ a) :=
  mul_nn ha hb ha (Nat.mul_le_mul_left _ h1)

theorem Nn.of_mag_le {b a : Nat} (h : Nn b) (hb : Pos b → b ≤ a) : mag b ≤ val a := by
  rcases h with h | h
  · rw [h.mag]; exact val_le (hb h)
  · rw [h, negz_mag]; exact Nat.zero_le _

/-! a likelihood -/
def Lik (p : Nat) : Prop := p ≤ one ∨ p = negz

theorem Lik.nn {p : Nat} (h : Lik p) : Nn p := by
  rcases h with h | h
  · left; unfold Pos inf; unfold one at h; omega
  · exact Or.inr h
theorem Lik.mag_le {p : Nat} (h : Lik p) : mag p ≤ wide := by
  rw [← val_one]
  refine h.nn.of_mag_le (fun hp => ?_)
  rcases h with h | h
  · exact h
  · rw [h] at hp; unfold Pos negz inf at hp; omega

theorem one_pos : Pos one := by unfold Pos one inf; omega

/-- 1 - p -/
theorem sub_lik {p : Nat} (h : Lik p) : double.sub one p = some (fsub one p) ∧ fsub one p ≤ one := by
  obtain ⟨r, h1, h2⟩ := sub_fin one p one_pos.fin h.nn.fin
  rw [one_pos.num, h.nn.num] at h2
  have hm := h.mag_le
  have hv := val_one
  have hs : subNeg one p = false := by
    unfold subNeg
    rw [one_pos.num, h.nn.num, one_pos.neg]
    split
    · rfl
    · rw [decide_eq_false_iff_not]; omega
  rw [hs, word_false] at h1
  have hf : fsub one p = r := by unfold fsub; rw [h1]; rfl
  rw [hf]
  exact ⟨h1, h2.below one (by omega)⟩

theorem val_two (n : Nat) : val (two (n + 1)) = 2 * val (two n) := by
  rw [val_two_pow, val_two_pow, show 1074 + (n + 1) = (1074 + n) + 1 from rfl]
  unfold pow2
  rw [Nat.pow_succ, Nat.mul_comm]

end FloatPlain
