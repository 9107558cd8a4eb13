/- Rows of likelihoods, as words of floats: what a row's next one is; that nothing overflows. (No program in sight.) -/
import Derived.Test.YtnaogcpcaabbhaaFloatOrd
namespace FloatPlain
open Ieee

/-- the float at a place of a row; 0 where there is none -/
def at0 (q : List Nat) (k : Nat) : Nat := q.getD k 0

theorem at0_lt {q : List Nat} {k : Nat} (h : k < q.length) : at0 q k = q[k] := by simp [at0, h]
theorem at0_ge {q : List Nat} {k : Nat} (h : q.length ≤ k) : at0 q k = 0 := by simp [at0, h]

/-- the cell of the next row -/
def cell (q : List Nat) (p r : Nat) (k : Nat) : Nat := if k = 0 then fmul (at0 q 0) r else fadd (fmul (at0 q k) r) (fmul (at0 q (k - 1)) p)
def nextRow (q : List Nat) (p r : Nat) : List Nat := (List.range (q.length + 1)).map (cell q p r)

theorem nextRow_len (q : List Nat) (p r : Nat) : (nextRow q p r).length = q.length + 1 := by simp [nextRow]
theorem nextRow_get (q : List Nat) (p r : Nat) (k : Nat) (h : k < q.length + 1) : (nextRow q p r)[k]'(by rw [nextRow_len]; exact h) = cell q p r k := by simp [nextRow]
theorem nextRow_at0 (q : List Nat) (p r : Nat) (k : Nat) (h : k < q.length + 1) : at0 (nextRow q p r) k = cell q p r k := by
  rw [at0_lt (by rw [nextRow_len]; exact h), nextRow_get _ _ _ _ h]

/-- a row's operations all have a value -/
structure Okay (q : List Nat) (p r : Nat) : Prop where
  mr : ∀ k, double.mul (at0 q k) r = some (fmul (at0 q k) r)
  mp : ∀ k, double.mul (at0 q k) p = some (fmul (at0 q k) p)
  ad : ∀ k, double.add (fmul (at0 q (k + 1)) r) (fmul (at0 q k) p) = some (fadd (fmul (at0 q (k + 1)) r) (fmul (at0 q k) p))
  fz : double.mul 0 p = some (fmul 0 p)
  fa : double.add (fmul (at0 q 0) r) (fmul 0 p) = some (fmul (at0 q 0) r)

/-- no float of the row is above 2^n -/
def RowB (n : Nat) (q : List Nat) : Prop := ∀ k, at0 q k ≤ two n

theorem two_pos {n : Nat} (h : n ≤ 1023) : Pos (two n) := by unfold Pos two inf; omega

theorem RowB.pos {n : Nat} {q : List Nat} (h : RowB n q) (hn : n ≤ 1023) (k : Nat) : Pos (at0 q k) := Nat.lt_of_le_of_lt (h k) (two_pos hn)

theorem mul_r {n : Nat} {q : List Nat} {r : Nat} (h : RowB n q) (hn : n ≤ 1023) (hr : r ≤ one) (k : Nat) :
    double.mul (at0 q k) r = some (fmul (at0 q k) r) ∧ fmul (at0 q k) r ≤ at0 q k := by
  have hp : Pos r := Nat.lt_of_le_of_lt hr one_pos
  obtain ⟨h1, _, _, h4⟩ := mul_le_one (h.pos hn k) hp.nn (by rw [hp.mag, ← val_one]; exact val_le hr)
  exact ⟨h1, h4 hp⟩

theorem okay {n : Nat} {q : List Nat} {p : Nat} (h : RowB n q) (hn : n ≤ 1022) (hp : Lik p) : Okay q p (fsub one p) ∧ RowB (n + 1) (nextRow q p (fsub one p)) := by
  have hr := (sub_lik hp).2
  generalize fsub one p = r at hr ⊢
  have M := mul_r h (by omega) hr
  have N := fun k => mul_le_one (h.pos (by omega) k) hp.nn hp.mag_le
  have A : ∀ k, double.add (fmul (at0 q (k + 1)) r) (fmul (at0 q k) p) = some (fadd (fmul (at0 q (k + 1)) r) (fmul (at0 q k) p)) ∧ fadd (fmul (at0 q (k + 1)) r) (fmul (at0 q k) p) ≤ two (n + 1) := by
    intro k
    have hpos : Pos (fmul (at0 q (k + 1)) r) := Nat.lt_of_le_of_lt (M (k + 1)).2 (h.pos (by omega) (k + 1))
    have h2 := add_pos hpos (N k).2.1 (k := two (n + 1)) (by
      rw [val_two]
      have h3 := val_le (Nat.le_trans (M (k + 1)).2 (h (k + 1)))
      have h4 := Nat.le_trans (N k).2.2.1 (val_le (h k))
      omega)
    exact ⟨h2.1, h2.2.1⟩
  have z := mul_le_one zero_pos hp.nn hp.mag_le
  have hf : Pos (fmul (at0 q 0) r) := Nat.lt_of_le_of_lt (M 0).2 (h.pos (by omega) 0)
  have hzm : mag (fmul 0 p) = 0 := by have := z.2.2.1; rw [val_zero] at this; omega
  refine ⟨⟨fun k => (M k).1, fun k => (N k).1, fun k => (A k).1, z.1, ?_⟩, fun k => ?_⟩
  · have h5 := add_pos hf z.2.1 (k := fmul (at0 q 0) r) (by rw [hzm]; omega)
    have h6 : fadd (fmul (at0 q 0) r) (fmul 0 p) = fmul (at0 q 0) r := Nat.le_antisymm h5.2.1 h5.2.2
    rw [h5.1, h6]
  · rcases Nat.lt_or_ge k (q.length + 1) with c | c
    · rw [nextRow_at0 _ _ _ _ c]
      unfold cell
      split
      · refine Nat.le_trans (Nat.le_trans (M 0).2 (h 0)) ?_
        unfold two; omega
      · rename_i hk
        have := (A (k - 1)).2
        rwa [show k - 1 + 1 = k from by omega] at this
    · rw [at0_ge (by rw [nextRow_len]; exact c)]
      exact Nat.zero_le _

/-- the row of n people -/
def rowN (p : Nat) : Nat → List Nat
  | 0 => [one]
  | n + 1 => nextRow (rowN p n) p (fsub one p)

theorem rowN_len (p n : Nat) : (rowN p n).length = n + 1 := by
  induction n with
  | zero => rfl
  | succ n ih => show (nextRow _ _ _).length = _; rw [nextRow_len, ih]

theorem rowN_bound {p : Nat} (hp : Lik p) : ∀ n, n ≤ 1023 → RowB n (rowN p n) := by
  intro n
  induction n with
  | zero =>
    intro _ k
    cases k with
    | zero =>
      show one ≤ two 0
      rw [two_zero]; exact Nat.le_refl _
    | succ k =>
      rw [at0_ge (by rw [rowN_len]; omega)]; exact Nat.zero_le _
  | succ n ih => intro h; exact (okay (ih (by omega)) (by omega) hp).2

theorem rowN_okay {p : Nat} (hp : Lik p) (n : Nat) (h : n ≤ 1022) : Okay (rowN p n) p (fsub one p) := (okay (rowN_bound hp n (by omega)) h hp).1

/-! the sum of what stands behind a place, the last one first -/
def bsum (q : List Nat) (hi : Nat) : Nat → Nat
  | 0 => 0
  | j + 1 => fadd (bsum q hi j) (at0 q (hi - 1 - j))

/-- how many are added -/
def steps (len : Nat) (s : Int) : Nat := min len ((len : Int) - 1 - s).toNat

/-- the sum's operations all have a value -/
def SumOkay (q : List Nat) (hi m : Nat) : Prop := ∀ j, j < m → double.add (bsum q hi j) (at0 q (hi - 1 - j)) = some (bsum q hi (j + 1))

def rung (n j : Nat) : Nat := two (n + 10) + j * 4398046511104
theorem val_rung (n j : Nat) (hj : j ≤ 1024) : val (rung n j) = pow2 (1084 + n) + j * pow2 (1074 + n) := by
  have h := val_made (1032 + n) (4503599627370496 + j * 4398046511104) (by omega) (Or.inr (by omega))
  rw [show (1032 + n) * 4503599627370496 + (4503599627370496 + j * 4398046511104) = rung n j from by unfold rung two; omega] at h
  rw [h, Nat.add_mul, show (4503599627370496 : Nat) = 2 ^ 52 from by decide, show (4398046511104 : Nat) = 2 ^ 42 from by decide, Nat.mul_assoc, ← Nat.pow_add, ← Nat.pow_add]
  unfold pow2
  rw [show 52 + (1032 + n) = 1084 + n from by omega, show 42 + (1032 + n) = 1074 + n from by omega]

theorem sum_bound {n : Nat} {q : List Nat} (h : RowB n q) (hn : n ≤ 1000) (hi : Nat) : ∀ j, j ≤ 1023 → bsum q hi j ≤ rung n j ∧ ∀ i, i < j → double.add (bsum q hi i) (at0 q (hi - 1 - i)) = some (bsum q hi (i + 1)) := by
  intro j
  induction j with
  | zero => intro _; exact ⟨Nat.zero_le _, fun i hi => absurd hi (by omega)⟩
  | succ j ih =>
    intro hj
    obtain ⟨h1, h2⟩ := ih (by omega)
    have hp : Pos (bsum q hi j) := by
      refine Nat.lt_of_le_of_lt h1 ?_
      unfold rung two inf; omega
    have hq := h.pos (by omega) (hi - 1 - j)
    have h3 := add_pos hp hq.nn (k := rung n (j + 1)) (by
      rw [val_rung _ _ (by omega), hq.mag]
      have h4 := val_le h1
      rw [val_rung _ _ (by omega)] at h4
      have h5 := val_le (h (hi - 1 - j))
      rw [val_two_pow] at h5
      rw [Nat.add_mul, Nat.one_mul]
      omega)
    refine ⟨h3.2.1, fun i hi' => ?_⟩
    by_cases e : i = j
    · subst e; exact h3.1
    · exact h2 i (by omega)

theorem sumOkay {n : Nat} {q : List Nat} (h : RowB n q) (hn : n ≤ 1000) (hi m : Nat) (hm : m ≤ 1023) : SumOkay q hi m := (sum_bound h hn hi m hm).2

theorem bsum_pos {n : Nat} {q : List Nat} (h : RowB n q) (hn : n ≤ 1000) (hi m : Nat) (hm : m ≤ 1023) : Pos (bsum q hi m) := by
  refine Nat.lt_of_le_of_lt (sum_bound h hn hi m hm).1 ?_
  unfold rung two inf; omega
end FloatPlain
