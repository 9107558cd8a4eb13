/- One class of which surely k people ask. (No program in sight.) -/
import Derived.Test.YtnaogcpcaabbhaaCheckPlain
namespace FloatPlain
open Ieee

theorem zero_add {b : Nat} (hb : Pos b) : fadd 0 b = b := by
  have h := add_nn zero_pos.nn hb (k := b) (by rw [zero_pos.mag, val_zero]; omega)
  omega
theorem zero_mul {b : Nat} (hb : Pos b) : fmul 0 b = 0 := by
  have h := mul_nn zero_pos hb.nn (k := 0) (by unfold inf; omega) (by rw [val_zero]; omega)
  have := h.2.2.2 hb
  omega
theorem one_mul {b : Nat} (hb : Pos b) : fmul one b = b := by
  obtain ⟨r, h1, h2⟩ := mul_fin one b one_pos.fin hb.fin
  rw [one_pos.mag, hb.mag, val_one, one_pos.neg, hb.neg] at *
  have e : r = b := h2.exact (Nat.le_of_lt hb) (Nat.mul_comm _ _)
  rw [e, Bool.xor_self, word_false] at h1
  unfold fmul; rw [h1]; rfl

theorem at0_rep (n j : Nat) : at0 (List.replicate n 0) j = 0 := by
  unfold at0
  rw [List.getD_eq_getElem?_getD, List.getElem?_replicate]
  split <;> rfl

/-- all chances are 0 but the k-th, which is 1 -/
def hot (k : Nat) : List Nat := (List.replicate (k + 1) 0).set k one
theorem hot_len (k : Nat) : (hot k).length = k + 1 := by simp [hot]
theorem hot_at (k : Nat) : at0 (hot k) k = one := by
  rw [at0_lt (by rw [hot_len]; omega)]; simp [hot]
theorem hot_no {k j : Nat} (h : j ≠ k) : at0 (hot k) j = 0 := by
  have e : at0 (hot k) j = at0 (List.replicate (k + 1) 0) j := by
    unfold at0 hot
    rw [List.getD_eq_getElem?_getD, List.getD_eq_getElem?_getD, List.getElem?_set_ne (fun e => h e.symm)]
  rw [e, at0_rep]

theorem hot_likely {k : Nat} (h : k ≤ 255) : Likely (hot k) := by
  refine ⟨by rw [hot_len]; omega, by rw [hot_len]; omega, fun j _ => ?_⟩
  by_cases e : j = k
  · rw [e, hot_at]; exact Or.inl (Nat.le_refl _)
  · rw [hot_no e]; exact Or.inl (Nat.zero_le _)
theorem hot_sum (k : Nat) : sumK (hot k) (k + 1) = one := by
  have h : ∀ j, j ≤ k → sumK (hot k) j = 0 := by
    intro j
    induction j with
    | zero => intro _; rfl
    | succ j ih =>
      intro hj
      show fadd (sumK (hot k) j) (at0 (hot k) j) = 0
      rw [ih (by omega), hot_no (by omega), zero_add zero_pos]
  show fadd (sumK (hot k) k) (at0 (hot k) k) = one
  rw [h k (Nat.le_refl _), hot_at, zero_add one_pos]
theorem hot_chances {k : Nat} (h : k ≤ 255) : Chances (hot k) := by
  refine ⟨hot_likely h, ?_⟩
  rw [hot_len, hot_sum]
  decide +kernel

theorem sure_out {P k x : Nat} {w : List Nat} (hp : ∀ j, j ≤ k → Pos (bestK P w x j)) : outK P w (hot k) x (k + 1) = bestK P w x k := by
  have h : ∀ j, j ≤ k → outK P w (hot k) x j = 0 := by
    intro j
    induction j with
    | zero => intro _; rfl
    | succ j ih =>
      intro hj
      show fadd (outK P w (hot k) x j) (fmul (at0 (hot k) j) (bestK P w x j)) = 0
      rw [ih (by omega), hot_no (by omega), zero_mul (hp j (by omega)), zero_add zero_pos]
  show fadd (outK P w (hot k) x k) (fmul (at0 (hot k) k) (bestK P w x k)) = _
  rw [h k (Nat.le_refl _), hot_at, one_mul (hp k (Nat.le_refl _)), zero_add (hp k (Nat.le_refl _))]

/-- what u people bring, of seats that are worth nothing else -/
def brings (P u : Nat) : Nat := fadd (fmul (intW (u : Int)) P) 0

theorem brings_is {P u : Nat} (hP : Dear P) (hu : u ≤ 256) : Pos (brings P u) ∧ num (brings P u) = num (fmul (intW (u : Int)) P) ∧ Fin (fmul (intW (u : Int)) P) := by
  obtain ⟨m1, m2, m3⟩ := mul_price hP hu
  unfold brings
  generalize fmul (intW (u : Int)) P = a at m2 m3 ⊢
  rcases m2 with h | h
  · rw [add_zero h]
    exact ⟨h, rfl, h.fin⟩
  · subst h
    have h2 := add_nn (Or.inr rfl : Nn negz) zero_pos (k := 0) (by rw [negz_mag, val_zero]; omega)
    have e : fadd negz 0 = 0 := by omega
    rw [e]
    exact ⟨zero_pos, by rw [zero_pos.num, negz_num, val_zero]; rfl, negz_fin⟩

theorem brings_mono {P u : Nat} (hP : Dear P) (hu : u + 1 ≤ 256) : brings P u ≤ brings P (u + 1) := by
  obtain ⟨p1, v1⟩ := intW_pos (k := u) (by omega)
  obtain ⟨p2, v2⟩ := intW_pos (k := u + 1) (by omega)
  obtain ⟨a1, a2, _⟩ := brings_is hP (u := u) (by omega)
  obtain ⟨b1, b2, _⟩ := brings_is hP (u := u + 1) hu
  obtain ⟨r, h1, h2⟩ := mul_fin (intW (u : Int)) P p1.fin hP.1.fin
  obtain ⟨r', h1', h2'⟩ := mul_fin (intW ((u + 1 : Nat) : Int)) P p2.fin hP.1.fin
  rw [p1.neg] at h1
  rw [p2.neg] at h1'
  rw [p1.mag, v1] at h2
  rw [p2.mag, v2] at h2'
  have hrr : r ≤ r' := by
    refine near_step (u := u) (P := mag P) (B := wide) ?_ ?_ (by omega)
    · rw [show u * (mag P * wide) = u * wide * mag P from by rw [Nat.mul_comm (mag P), Nat.mul_assoc]]; exact h2
    · rw [show (u + 1) * (mag P * wide) = (u + 1) * wide * mag P from by rw [Nat.mul_comm (mag P), Nat.mul_assoc]]; exact h2'
  have hx : fmul (intW (u : Int)) P = double.word (false ^^ neg P) r := by unfold fmul; rw [h1]; rfl
  have hx' : fmul (intW ((u + 1 : Nat) : Int)) P = double.word (false ^^ neg P) r' := by unfold fmul; rw [h1']; rfl
  rcases hP.1 with hp | hp
  · rw [hp.neg, Bool.xor_self, word_false] at hx hx'
    rw [a1.num, hx] at a2
    rw [b1.num, hx'] at b2
    have f1 := (mul_price hP (k := u) (by omega)).2.1
    have f2 := (mul_price hP (k := u + 1) hu).2.1
    rw [hx] at f1
    rw [hx'] at f2
    have hr : Pos r := by
      rcases f1 with f | f
      · exact f
      · have := h2.top; rw [f] at this; unfold negz inf at this; omega
    have hr' : Pos r' := by
      rcases f2 with f | f
      · exact f
      · have := h2'.top; rw [f] at this; unfold negz inf at this; omega
    rw [hr.num] at a2
    rw [hr'.num] at b2
    have e1 : brings P u = r := val_inj (by omega)
    have e2 : brings P (u + 1) = r' := val_inj (by omega)
    omega
  · have hz : mag P = 0 := by rw [hp, negz_mag]
    rw [hz] at h2 h2'
    have hr : r = 0 := h2.exact (k := 0) (Nat.zero_le _) (by rw [val_zero]; omega)
    have hr' : r' = 0 := h2'.exact (k := 0) (Nat.zero_le _) (by rw [val_zero]; omega)
    have : brings P u = brings P (u + 1) := by unfold brings; rw [hx, hx', hr, hr']
    omega

theorem sure_best {P n x k : Nat} (hP : Dear P) (hk : k ≤ 255) : bestK P (List.replicate n 0) x k = brings P (min k x) := by
  have hv : ∀ u, vK P (List.replicate n 0) x u = brings P u := by
    intro u
    unfold vK brings
    rw [at0_rep]
  induction k with
  | zero =>
    show vK P _ x 0 = _
    rw [hv, Nat.zero_min]
  | succ k ih =>
    show (if k + 1 ≤ x then max (bestK P _ x k) (vK P _ x (k + 1)) else bestK P _ x k) = _
    rw [ih (by omega), hv]
    by_cases h : k + 1 ≤ x
    · rw [if_pos h, Nat.min_eq_left h, Nat.min_eq_left (by omega)]
      have := brings_mono hP (u := k) (by omega)
      omega
    · rw [if_neg h, Nat.min_eq_right (by omega), Nat.min_eq_right (by omega)]
end FloatPlain
