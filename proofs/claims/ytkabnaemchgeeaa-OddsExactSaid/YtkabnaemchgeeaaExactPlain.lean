/- Rows of likelihood a half: Pascal's numbers over a power of two, exactly; for at most fifty. (No program in sight.) -/
import Derived.Test.YtkabnaemchgeeaaOnePlain
import Derived.Test.YtkabnaemchgeeaaNearPlain
namespace FloatPlain
open Ieee

/-- the ways to pick -/
def pas : Nat → List Nat
  | 0 => [1]
  | n + 1 => (List.range (n + 2)).map fun k => (pas n).getD k 0 + (if k = 0 then 0 else (pas n).getD (k - 1) 0)

def chk1 (n : Nat) (q ws : List Nat) : Bool := (List.range (n + 1)).all fun k => double.mul (at0 q k) (intW (2 ^ n : Nat)) == some (intW (at0 ws k : Nat))
def chk (n : Nat) : Bool := chk1 n (rowN 4602678819172646912 n) (pas n)
/-- up to n -/
def chkAll : Nat → Bool
  | 0 => chk 0
  | n + 1 => chkAll n && chk (n + 1)
theorem chk_all : chkAll 50 = true := by kernel_rfl
theorem chk_le : ∀ n, chkAll n = true → ∀ m, m ≤ n → chk m = true := by
  intro n
  induction n with
  | zero =>
    intro h m hm
    obtain rfl : m = 0 := by omega
    exact h
  | succ n ih =>
    intro h m hm
    have h' : (chkAll n && chk (n + 1)) = true := h
    rw [Bool.and_eq_true] at h'
    by_cases e : m = n + 1
    · rw [e]; exact h'.2
    · exact ih h'.1 m (by omega)

/-- row n of likelihood a half, times 2^n -/
theorem exact_all (n k : Nat) (hn : n ≤ 50) (hk : k ≤ n) : double.mul (at0 (rowN 4602678819172646912 n) k) (intW (2 ^ n : Nat)) = some (intW (at0 (pas n) k : Nat)) := by
  have h := chk_le 50 chk_all n hn
  unfold chk chk1 at h
  rw [List.all_eq_true] at h
  have := h k (List.mem_range.2 (by omega))
  simpa using this

def pasC (i k : Nat) : Nat := at0 (pas i) k
theorem pas_len (i : Nat) : (pas i).length = i + 1 := by
  cases i with
  | zero => rfl
  | succ i => simp [pas]
theorem pasC_zero (k : Nat) : pasC 0 k = if k = 0 then 1 else 0 := by
  by_cases h : k = 0
  · subst h; rfl
  · rw [if_neg h]; exact at0_ge (by rw [pas_len]; omega)
theorem pasC_succ (i k : Nat) : pasC (i + 1) k = pasC i k + (if k = 0 then 0 else pasC i (k - 1)) := by
  by_cases h : k < i + 2
  · unfold pasC
    rw [at0_lt (by rw [pas_len]; omega)]
    simp [pas, at0]
  · have e1 : pasC (i + 1) k = 0 := at0_ge (by rw [pas_len]; omega)
    have e2 : pasC i k = 0 := at0_ge (by rw [pas_len]; omega)
    have e3 : pasC i (k - 1) = 0 := at0_ge (by rw [pas_len]; omega)
    rw [e1, e2, e3]; simp
theorem pasC_le (i : Nat) : ∀ k, pasC i k ≤ 2 ^ i := by
  induction i with
  | zero => intro k; rw [pasC_zero]; split <;> decide
  | succ i ih =>
    intro k
    rw [pasC_succ, Nat.pow_succ]
    have := ih k
    split
    · omega
    · have := ih (k - 1); omega
theorem pasC_bound {i : Nat} (h : i ≤ 50) (k : Nat) : pasC i k ≤ 1125899906842624 :=
  Nat.le_trans (pasC_le i k) (Nat.le_trans (Nat.pow_le_pow_right (by omega) h) (by decide))
end FloatPlain
