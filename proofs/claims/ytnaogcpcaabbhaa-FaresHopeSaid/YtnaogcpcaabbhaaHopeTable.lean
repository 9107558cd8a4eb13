/- Parts of a small sum; fares made of them. (No program in sight.) -/
import Derived.Test.YtnaogcpcaabbhaaHopeRow
namespace FloatPlain
open Ieee

def tabOk (w S : Nat) : Bool := match double.div (intW (w : Int)) (intW (S : Int)) with
  | some c => decide (c ≤ one) && decide (val c * S ≤ w * wide + S * kap) && decide (w * wide ≤ val c * S + S * kap)
  | none => false
def tab : Bool := (List.range 33).all fun S => S == 0 || (List.range 9).all fun w => decide (S < w) || tabOk w S
theorem tab_ok : tab = true := by decide +kernel

/-- a part of a sum -/
def part (w S : Nat) : Nat := (double.div (intW (w : Int)) (intW (S : Int))).getD 0
theorem part_is {w S : Nat} (hw : w ≤ 8) (hS : S ≤ 32) (h0 : 1 ≤ S) (h : w ≤ S) :
    double.div (intW (w : Int)) (intW (S : Int)) = some (part w S) ∧ part w S ≤ one ∧ val (part w S) * S ≤ w * wide + S * kap ∧ w * wide ≤ val (part w S) * S + S * kap := by
  have t := tab_ok
  unfold tab at t
  rw [List.all_eq_true] at t
  have t1 := t S (List.mem_range.2 (by omega))
  rw [Bool.or_eq_true] at t1
  rcases t1 with t1 | t1
  · rw [beq_iff_eq] at t1; omega
  · rw [List.all_eq_true] at t1
    have t2 := t1 w (List.mem_range.2 (by omega))
    rw [Bool.or_eq_true] at t2
    rcases t2 with t2 | t2
    · rw [decide_eq_true_eq] at t2; omega
    · unfold tabOk at t2
      unfold part
      cases hd : double.div (intW (w : Int)) (intW (S : Int)) with
      | none => rw [hd] at t2; cases t2
      | some c =>
        rw [hd] at t2
        simp only [Bool.and_eq_true, decide_eq_true_eq] at t2
        exact ⟨rfl, t2.1.1, t2.1.2, t2.2⟩

/-- a class' chances, few of them -/
structure Nice (cs : List Nat) : Prop where
  len1 : 1 ≤ cs.length
  len : cs.length ≤ 4
  one : ∀ k, k < cs.length → at0 cs k ≤ one
  hi : csum cs cs.length ≤ wide + 4 * kap
  lo : wide ≤ csum cs cs.length + 4 * kap

theorem Nice.lik {cs : List Nat} (h : Nice cs) : Likely cs := ⟨h.len1, by have := h.len; omega, fun k hk => Or.inl (h.one k hk)⟩

theorem lo_lim : val 4607182409792818153 + 8 * ep ≤ wide := by decide +kernel
theorem hi_lim : wide + 8 * ep ≤ val 4607182423303617035 := by decide +kernel

theorem Nice.sum {cs : List Nat} (h : Nice cs) : ∀ k, k ≤ cs.length → Pos (sumK cs k) ∧ val (sumK cs k) ≤ csum cs k + k * ep ∧ csum cs k ≤ val (sumK cs k) + k * ep ∧ csum cs k ≤ k * wide := by
  intro k
  induction k with
  | zero => intro _; exact ⟨zero_pos, Nat.zero_le _, Nat.zero_le _, Nat.zero_le _⟩
  | succ k ih =>
    intro hk
    obtain ⟨a1, a2, a3, a4⟩ := ih (by omega)
    have ho := h.one k (by omega)
    have hc : Pos (at0 cs k) := Nat.lt_of_le_of_lt ho one_pos
    have hv := val_le ho
    rw [val_one] at hv
    have hl := h.len
    have hk3 : k ≤ 3 := by omega
    have h3 : k * wide ≤ 3 * wide := Nat.mul_le_mul_right _ hk3
    have h4 : k * ep ≤ 3 * ep := Nat.mul_le_mul_right _ hk3
    have h5 := wide_ep
    have n := add_near a1 hc
    have hpos := add_pos a1 hc.nn (k := two 15) (by rw [hc.mag, two15]; omega)
    have hP : Pos (fadd (sumK cs k) (at0 cs k)) := Nat.lt_of_le_of_lt hpos.2.1 (two_pos (by omega))
    obtain ⟨k1, k2⟩ := near_ep n hP (by rw [Nat.mul_one]; omega)
    rw [Nat.mul_one, Nat.mul_one] at k1 k2
    have e1 : sumK cs (k + 1) = fadd (sumK cs k) (at0 cs k) := rfl
    have e2 : csum cs (k + 1) = csum cs k + val (at0 cs k) := rfl
    rw [e1, e2, Nat.add_mul, Nat.add_mul, Nat.one_mul, Nat.one_mul]
    exact ⟨hP, by omega, by omega, by omega⟩

theorem within_pos {x lo hi : Nat} (hx : Pos x) (hl : Pos lo) (hh : Pos hi) (h1 : lo ≤ x) (h2 : x ≤ hi) : withinB x lo hi = true := by
  unfold withinB
  rw [cmp_gt hx.fin hl.fin, cmp_eq hx.fin hl.fin, cmp_lt hx.fin hh.fin, cmp_eq hx.fin hh.fin, hx.num, hl.num, hh.num]
  have v1 := val_le h1
  have v2 := val_le h2
  simp only [Bool.and_eq_true, Bool.or_eq_true, decide_eq_true_eq]
  omega

theorem Nice.chances {cs : List Nat} (h : Nice cs) : Chances cs := by
  refine ⟨h.lik, ?_⟩
  obtain ⟨a1, a2, a3, _⟩ := h.sum cs.length (Nat.le_refl _)
  have h1 := h.hi
  have h2 := h.lo
  have hk := kap_ep
  have hl := h.len
  have h4 : cs.length * ep ≤ 4 * ep := Nat.mul_le_mul_right _ hl
  have l1 := lo_lim
  have l2 := hi_lim
  refine within_pos a1 (by unfold Pos inf; omega) (by unfold Pos inf; omega) (le_of_val ?_) (le_of_val ?_)
  · omega
  · omega

theorem nice_hot {k : Nat} (h : k ≤ 3) : Nice (hot k) := by
  have e0 : ∀ j, j ≤ k → csum (hot k) j = 0 := by
    intro j
    induction j with
    | zero => intro _; rfl
    | succ j ih =>
      intro hj
      show csum (hot k) j + val (at0 (hot k) j) = 0
      rw [ih (by omega), hot_no (by omega), val_zero]
  have e1 : csum (hot k) (hot k).length = wide := by
    rw [hot_len]
    show csum (hot k) k + val (at0 (hot k) k) = wide
    rw [e0 k (Nat.le_refl _), hot_at, val_one, Nat.zero_add]
  refine ⟨by rw [hot_len]; omega, by rw [hot_len]; omega, fun j _ => ?_, by rw [e1]; omega, by rw [e1]; omega⟩
  by_cases e : j = k
  · rw [e, hot_at]; exact Nat.le_refl _
  · rw [hot_no e]; exact Nat.zero_le _

/-- four parts of their sum -/
theorem nice_parts {a b c d S : Nat} (ha : a ≤ 8) (hb : b ≤ 8) (hc : c ≤ 8) (hd : d ≤ 8) (hS : S = a + b + c + d) (h0 : 1 ≤ S) : Nice [part a S, part b S, part c S, part d S] := by
  obtain ⟨_, a1, a2, a3⟩ := part_is (w := a) (S := S) ha (by omega) h0 (by omega)
  obtain ⟨_, b1, b2, b3⟩ := part_is (w := b) (S := S) hb (by omega) h0 (by omega)
  obtain ⟨_, c1, c2, c3⟩ := part_is (w := c) (S := S) hc (by omega) h0 (by omega)
  obtain ⟨_, d1, d2, d3⟩ := part_is (w := d) (S := S) hd (by omega) h0 (by omega)
  have e : csum [part a S, part b S, part c S, part d S] 4 = 0 + val (part a S) + val (part b S) + val (part c S) + val (part d S) := rfl
  have hw : a * wide + b * wide + c * wide + d * wide = S * wide := by rw [hS, Nat.add_mul, Nat.add_mul, Nat.add_mul]
  refine ⟨by show 1 ≤ 4; omega, Nat.le_refl 4, fun k hk => ?_, ?_, ?_⟩
  · have hk4 : k < 4 := hk
    match k, hk4 with
    | 0, _ => exact a1
    | 1, _ => exact b1
    | 2, _ => exact c1
    | 3, _ => exact d1
  · show csum [part a S, part b S, part c S, part d S] 4 ≤ _
    rw [e]
    apply Nat.le_of_mul_le_mul_right (c := S) _ (by omega)
    rw [Nat.add_mul, Nat.add_mul, Nat.add_mul, Nat.add_mul, Nat.zero_mul, Nat.add_mul, Nat.mul_assoc 4, Nat.mul_comm kap, Nat.mul_comm wide]
    omega
  · show wide ≤ csum [part a S, part b S, part c S, part d S] 4 + _
    rw [e]
    apply Nat.le_of_mul_le_mul_right (c := S) _ (by omega)
    rw [Nat.add_mul, Nat.add_mul, Nat.add_mul, Nat.add_mul, Nat.add_mul, Nat.zero_mul, Nat.mul_assoc 4, Nat.mul_comm kap, Nat.mul_comm wide]
    omega

/-- fares of few classes -/
structure Few (fs : List (Nat × List Nat)) (ps : Nat → Nat) : Prop where
  len : fs.length ≤ 3
  pr : ∀ k, k < fs.length → prA fs k = intW (ps k : Int)
  le : ∀ k, ps k ≤ 1000
  mono : ∀ k, k + 1 < fs.length → ps (k + 1) ≤ ps k
  nice : ∀ k, k < fs.length → Nice (csA fs k)

theorem Few.wf {fs : List (Nat × List Nat)} {ps : Nat → Nat} (h : Few fs ps) : Wf fs := by
  have hp : ∀ {x : Nat}, Pos x → x < 18446744073709551616 := fun {x} h => by unfold Pos inf at h; omega
  constructor
  · intro k
    rcases Nat.lt_or_ge k fs.length with c | c
    · rw [h.pr k c]
      exact hp (intW_pos (by have := h.le k; omega)).1
    · unfold prA
      rw [List.getD_eq_getElem?_getD, List.getElem?_eq_none c]
      decide
  · intro k j
    rcases Nat.lt_or_ge k fs.length with c | c
    · rcases Nat.lt_or_ge j (csA fs k).length with c2 | c2
      · exact hp (Nat.lt_of_le_of_lt ((h.nice k c).one j c2) one_pos)
      · rw [at0_ge c2]; decide
    · have e : csA fs k = [] := by
        unfold csA
        rw [List.getD_eq_getElem?_getD, List.getElem?_eq_none c]
        rfl
      rw [e, at0_ge (Nat.zero_le _)]; decide

theorem Few.good {fs : List (Nat × List Nat)} {ps : Nat → Nat} (h : Few fs ps) (h1 : 1 ≤ fs.length) : GoodF fs := by
  refine ⟨h1, by have := h.len; omega, fun k hk => ⟨?_, (h.nice k hk).chances⟩⟩
  rw [h.pr k hk]
  obtain ⟨p1, p2⟩ := intW_pos (k := ps k) (by have := h.le k; omega)
  by_cases e : k = 0
  · have el : lastP fs k = 4787326403894837248 := by unfold lastP; rw [if_pos e]
    rw [el]
    refine within_pos p1 zero_pos (by unfold Pos inf; omega) (Nat.zero_le _) (le_of_val ?_)
    have e2 : (4787326403894837248 : Nat) = two 40 := by decide
    rw [e2, p2, val_two_pow]
    have h3 : pow2 (1074 + 40) = 1099511627776 * wide := by
      rw [show (1099511627776 : Nat) = pow2 40 from by decide]
      unfold wide
      rw [Nat.mul_comm]
      exact (pow2_add_eq 1074 40 (1074 + 40) rfl).symm
    rw [h3]
    exact Nat.mul_le_mul_right _ (by have := h.le k; omega)
  · have el : lastP fs k = intW (ps (k - 1) : Int) := by unfold lastP; rw [if_neg e, h.pr (k - 1) (by omega)]
    rw [el]
    obtain ⟨q1, q2⟩ := intW_pos (k := ps (k - 1)) (by have := h.le (k - 1); omega)
    refine within_pos p1 zero_pos q1 (Nat.zero_le _) (le_of_val ?_)
    rw [p2, q2]
    have hm := h.mono (k - 1) (by omega)
    rw [show k - 1 + 1 = k from by omega] at hm
    exact Nat.mul_le_mul_right _ hm

theorem Few.top {fs : List (Nat × List Nat)} {ps : Nat → Nat} (h : Few fs ps) : ∀ k, k < fs.length → ps k ≤ ps 0 := by
  intro k
  induction k with
  | zero => intro _; exact Nat.le_refl _
  | succ k ih =>
    intro hk
    exact Nat.le_trans (h.mono k hk) (ih (by omega))

/-- the error behind k classes -/
def errE : Nat → Nat
  | 0 => 0
  | k + 1 => 2 * errE k + 20 * ep
theorem errE_le {k : Nat} (h : k ≤ 3) : errE k ≤ 140 * ep := by
  have e1 : errE 1 = 20 * ep := by unfold errE errE; omega
  have e2 : errE 2 = 60 * ep := by rw [errE, e1]; omega
  have e3 : errE 3 = 140 * ep := by rw [errE, e2]; omega
  have e0 : errE 0 = 0 := rfl
  rcases Nat.lt_or_ge k 2 with c | c
  · rcases Nat.lt_or_ge k 1 with d | d
    · rw [show k = 0 from by omega, e0]; exact Nat.zero_le _
    · rw [show k = 1 from by omega, e1]; exact Nat.mul_le_mul_right _ (by omega)
  · rcases Nat.lt_or_ge k 3 with d | d
    · rw [show k = 2 from by omega, e2]; exact Nat.mul_le_mul_right _ (by omega)
    · rw [show k = 3 from by omega, e3]; exact Nat.le_refl _
end FloatPlain
