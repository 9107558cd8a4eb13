/- When fares may be. (No program in sight.) -/
import Derived.Test.YtnaogcpcaabbhaaErrPlain
namespace FloatPlain
open Ieee

/-- a class' price, a class' chances -/
def prA (fs : List (Nat × List Nat)) (k : Nat) : Nat := (fs.getD k (0, [])).1
def csA (fs : List (Nat × List Nat)) (k : Nat) : List Nat := (fs.getD k (0, [])).2

def withinB (x lo hi : Nat) : Bool := (double.order x lo == some .gt || double.order x lo == some .eq) && (double.order x hi == some .lt || double.order x hi == some .eq)

/-- words of 64 bits, all of them -/
def Wf (fs : List (Nat × List Nat)) : Prop := (∀ k, prA fs k < 18446744073709551616) ∧ ∀ k j, at0 (csA fs k) j < 18446744073709551616

theorem within_lik {p : Nat} (h : p < 18446744073709551616) : withinB p 0 4607182418800017408 = true ↔ Lik p := likB_iff p h

theorem within_dear {p hi : Nat} (h : p < 18446744073709551616) (hhi : Dear hi) (hw : withinB p 0 hi = true) : Dear p := by
  unfold withinB at hw
  rw [Bool.and_eq_true] at hw
  obtain ⟨h1, h2⟩ := hw
  rcases three p h with f | f | f
  · rw [cmp_gt f zero_pos.fin, cmp_eq f zero_pos.fin] at h1
    rw [cmp_lt f hhi.1.fin, cmp_eq f hhi.1.fin] at h2
    simp only [Bool.or_eq_true, decide_eq_true_eq] at h1 h2
    have hz : num 0 = 0 := by rw [zero_pos.num, val_zero]; rfl
    rw [hz] at h1
    have hn := f.num_nonneg_iff.1 (by omega)
    refine ⟨hn, ?_⟩
    rw [hn.num, hhi.1.num] at h2
    have := hhi.2
    omega
  · rw [order_inf _ _ f zero_pos.fin] at h1
    rw [order_inf _ _ f hhi.1.fin] at h2
    cases hn : neg p <;> rw [hn] at h1 h2 <;> simp at h1 h2
  · rw [order_nan _ _ f] at h1
    simp at h1

theorem two40 : Dear 4787326403894837248 := by
  have e : (4787326403894837248 : Nat) = two 40 := by decide
  rw [e]
  have hp : Pos (two 40) := two_pos (by omega)
  exact ⟨hp.nn, by rw [hp.mag]; exact Nat.le_refl _⟩

/-! the sum of chances -/
def sumK (cs : List Nat) : Nat → Nat
  | 0 => 0
  | k + 1 => fadd (sumK cs k) (at0 cs k)

theorem sum_some {cs : List Nat} {m : Nat} (hm : m ≤ 256) (h : ∀ k, k < m → Lik (at0 cs k)) : ∀ j, j ≤ m → sumK cs j ≤ rung 0 j ∧ ∀ i, i < j → double.add (sumK cs i) (at0 cs i) = some (sumK cs (i + 1)) := by
  intro j
  induction j with
  | zero => intro _; exact ⟨Nat.zero_le _, fun i hi => absurd hi (by omega)⟩
  | succ j ih =>
    intro hj
    obtain ⟨h1, h2⟩ := ih (by omega)
    have hp : Pos (sumK cs j) := by
      refine Nat.lt_of_le_of_lt h1 ?_
      unfold rung two inf; omega
    have hq := h j (by omega)
    have h3 := add_pos hp hq.nn (k := rung 0 (j + 1)) (by
      rw [val_rung _ _ (by omega)]
      have h4 := val_le h1
      rw [val_rung _ _ (by omega)] at h4
      have h5 : mag (at0 cs j) ≤ pow2 (1074 + 0) := hq.mag_le
      rw [Nat.add_mul, Nat.one_mul]
      omega)
    refine ⟨h3.2.1, fun i hi' => ?_⟩
    by_cases e : i = j
    · subst e; exact h3.1
    · exact h2 i (by omega)

theorem sum_step {cs : List Nat} {k : Nat} (hk : k < 256) (h : ∀ j, j ≤ k → Lik (at0 cs j)) : double.add (sumK cs k) (at0 cs k) = some (sumK cs (k + 1)) :=
  (sum_some (m := k + 1) (by omega) (fun j hj => h j (by omega)) (k + 1) (Nat.le_refl _)).2 k (by omega)

def Chances (cs : List Nat) : Prop := Likely cs ∧ withinB (sumK cs cs.length) 4607182409792818153 4607182423303617035 = true

/-- the price that the next class may not pass -/
def lastP (fs : List (Nat × List Nat)) (k : Nat) : Nat := if k = 0 then 4787326403894837248 else prA fs (k - 1)
def Elem (fs : List (Nat × List Nat)) (k : Nat) : Prop := withinB (prA fs k) 0 (lastP fs k) = true ∧ Chances (csA fs k)
def GoodF (fs : List (Nat × List Nat)) : Prop := 1 ≤ fs.length ∧ fs.length ≤ 16 ∧ ∀ k, k < fs.length → Elem fs k

open Classical in
noncomputable def chk (fs : List (Nat × List Nat)) : Int := if GoodF fs then 0 else 260
theorem chk_good {fs : List (Nat × List Nat)} (h : GoodF fs) : chk fs = 0 := by unfold chk; rw [if_pos h]
theorem chk_bad {fs : List (Nat × List Nat)} (h : ¬ GoodF fs) : chk fs = 260 := by unfold chk; rw [if_neg h]

theorem last_dear {fs : List (Nat × List Nat)} (hw : Wf fs) : ∀ k, (∀ j, j < k → Elem fs j) → Dear (lastP fs k) := by
  intro k
  induction k with
  | zero => intro _; exact two40
  | succ k ih =>
    intro h
    have h1 := ih (fun j hj => h j (by omega))
    exact within_dear (hw.1 k) h1 (h k (by omega)).1
theorem elem_dear {fs : List (Nat × List Nat)} (hw : Wf fs) {k : Nat} (h : ∀ j, j ≤ k → Elem fs j) : Dear (prA fs k) := last_dear hw (k + 1) (fun j hj => h j (by omega))

theorem prA_get {fs : List (Nat × List Nat)} {k : Nat} (hk : k < fs.length) : prA fs k = fs[k].1 := by unfold prA; simp [hk]
theorem csA_get {fs : List (Nat × List Nat)} {k : Nat} (hk : k < fs.length) : csA fs k = fs[k].2 := by unfold csA; simp [hk]

theorem good_classes {fs : List (Nat × List Nat)} (hw : Wf fs) (h : GoodF fs) : Classes fs := by
  intro f hf
  obtain ⟨k, hk, rfl⟩ := List.getElem_of_mem hf
  have := h.2.2 k hk
  rw [← prA_get hk, ← csA_get hk]
  exact ⟨elem_dear hw (fun j hj => h.2.2 j (by omega)), this.2.1⟩
end FloatPlain
