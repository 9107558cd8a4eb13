/- Rows of likelihood 1 and 0, of any length. (No program in sight.) -/
import Derived.Test.YtkabnaemchgeeaaOddsPlain
import Derived.KernelRfl
namespace FloatPlain
open Ieee

theorem v1 : double.mul one 0 = some 0 := by kernel_rfl
theorem v2 : double.mul 0 0 = some 0 := by kernel_rfl
theorem v3 : double.mul one one = some one := by kernel_rfl
theorem v4 : double.mul 0 one = some 0 := by kernel_rfl
theorem v5 : double.add 0 one = some one := by kernel_rfl
theorem v6 : double.add 0 0 = some 0 := by kernel_rfl
theorem v7 : double.sub one one = some 0 := by kernel_rfl
theorem v8 : double.sub one 0 = some one := by kernel_rfl
theorem v9 : double.add one 0 = some one := by kernel_rfl
theorem m1 : fmul one 0 = 0 := by unfold fmul; rw [v1]; rfl
theorem m2 : fmul 0 0 = 0 := by unfold fmul; rw [v2]; rfl
theorem m3 : fmul one one = one := by unfold fmul; rw [v3]; rfl
theorem m4 : fmul 0 one = 0 := by unfold fmul; rw [v4]; rfl
theorem a1 : fadd 0 one = one := by unfold fadd; rw [v5]; rfl
theorem a2 : fadd 0 0 = 0 := by unfold fadd; rw [v6]; rfl
theorem s1 : fsub one one = 0 := by unfold fsub; rw [v7]; rfl
theorem s0 : fsub one 0 = one := by unfold fsub; rw [v8]; rfl

theorem rowN_len' (p n : Nat) : (rowN p n).length = n + 1 := rowN_len p n

theorem row_one (n : Nat) : ∀ k, at0 (rowN one n) k = if k = n then one else 0 := by
  induction n with
  | zero =>
    intro k
    by_cases h : k = 0
    · subst h; rfl
    · rw [if_neg h, at0_ge (by rw [rowN_len]; omega)]
  | succ n ih =>
    intro k
    by_cases hk : k < n + 2
    · show at0 (nextRow (rowN one n) one (fsub one one)) k = _
      rw [nextRow_at0 _ _ _ _ (by rw [rowN_len]; omega), s1]
      unfold cell
      by_cases h0 : k = 0
      · rw [if_pos h0, ih 0, if_neg (show ¬ k = n + 1 by omega)]
        split
        · exact m1
        · exact m2
      · rw [if_neg h0, ih k, ih (k - 1)]
        by_cases h1 : k = n + 1
        · rw [if_neg (show ¬ k = n by omega), if_pos (show k - 1 = n by omega), if_pos h1, m2, m3, a1]
        · rw [if_neg (show ¬ k - 1 = n by omega), if_neg h1, m4]
          split
          · rw [m1, a2]
          · rw [m2, a2]
    · rw [at0_ge (by rw [rowN_len]; omega), if_neg (by omega)]

theorem okay_one (n : Nat) : Okay (rowN one n) one (fsub one one) := by
  rw [s1]
  refine ⟨fun k => ?_, fun k => ?_, fun k => ?_, v4.trans (by rw [m4]), ?_⟩
  · rw [row_one]; split
    · rw [m1]; exact v1
    · rw [m2]; exact v2
  · rw [row_one]; split
    · rw [m3]; exact v3
    · rw [m4]; exact v4
  · rw [row_one, row_one]
    have e : ∀ b : Bool, fmul (if b then one else 0) 0 = 0 := by intro b; cases b; exact m2; exact m1
    have e1 : fmul (if k + 1 = n then one else 0) 0 = 0 := by split; exact m1; exact m2
    rw [e1]
    split
    · rw [m3, a1]; exact v5
    · rw [m4, a2]; exact v6
  · rw [row_one]
    have e1 : fmul (if 0 = n then one else 0) 0 = 0 := by split; exact m1; exact m2
    rw [e1, m4]; exact v6

theorem row_zero (n : Nat) : ∀ k, at0 (rowN 0 n) k = if k = 0 then one else 0 := by
  induction n with
  | zero =>
    intro k
    by_cases h : k = 0
    · subst h; rfl
    · rw [if_neg h, at0_ge (by rw [rowN_len]; omega)]
  | succ n ih =>
    intro k
    by_cases hk : k < n + 2
    · show at0 (nextRow (rowN 0 n) 0 (fsub one 0)) k = _
      rw [nextRow_at0 _ _ _ _ (by rw [rowN_len]; omega), s0]
      unfold cell
      by_cases h0 : k = 0
      · rw [if_pos h0, ih 0, if_pos rfl, if_pos h0, m3]
      · rw [if_neg h0, ih k, ih (k - 1), if_neg h0, m4]
        have e1 : fmul (if k - 1 = 0 then one else 0) 0 = 0 := by split; exact m1; exact m2
        rw [e1, a2]
    · rw [at0_ge (by rw [rowN_len]; omega), if_neg (by omega)]

theorem okay_zero (n : Nat) : Okay (rowN 0 n) 0 (fsub one 0) := by
  rw [s0]
  refine ⟨fun k => ?_, fun k => ?_, fun k => ?_, v2.trans (by rw [m2]), ?_⟩
  · rw [row_zero]; split
    · rw [m3]; exact v3
    · rw [m4]; exact v4
  · rw [row_zero]; split
    · rw [m1]; exact v1
    · rw [m2]; exact v2
  · rw [row_zero, row_zero, if_neg (by omega), m4]
    have e1 : fmul (if k = 0 then one else 0) 0 = 0 := by split; exact m1; exact m2
    rw [e1, a2]; exact v6
  · rw [row_zero, if_pos rfl, m3, m2]; exact v9

/-- of likelihood 0 nothing stands behind a place -/
theorem bsum_zero (m : Nat) (s : Int) (hs : 0 ≤ s) : ∀ j, j ≤ steps (m + 1) s → bsum (rowN 0 m) (m + 1) j = 0 := by
  intro j
  induction j with
  | zero => intro _; rfl
  | succ j ih =>
    intro h
    show fadd (bsum (rowN 0 m) (m + 1) j) (at0 (rowN 0 m) (m + 1 - 1 - j)) = 0
    have hst : steps (m + 1) s ≤ m + 1 - 1 := by unfold steps; omega
    rw [ih (by omega), row_zero, if_neg (by omega), a2]

theorem sumOkay_zero (m : Nat) (s : Int) (hs : 0 ≤ s) : SumOkay (rowN 0 m) (m + 1) (steps (m + 1) s) := by
  intro j hj
  have hst : steps (m + 1) s ≤ m + 1 - 1 := by unfold steps; omega
  rw [bsum_zero m s hs j (by omega), bsum_zero m s hs (j + 1) (by omega), row_zero, if_neg (by omega)]
  exact v6
end FloatPlain
