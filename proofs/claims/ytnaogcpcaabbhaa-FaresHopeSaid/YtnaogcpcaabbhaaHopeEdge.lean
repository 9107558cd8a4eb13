/- Few classes: what is asked of the values; near. -/
import Derived.Test.YtnaogcpcaabbhaaHopeWalk
import Derived.Test.YtnaogcpcaabbhaaSureLaw
namespace Go.Proofs.Ytnaogcpcaabbhaa
open Go.RowKit FloatPlain

theorem few_rows {fs : List (Nat × List Nat)} {ps : Nat → Nat} (h : Few fs ps) {s : Nat} (hs : s ≤ 4) : ∀ j, j ≤ fs.length → RowE (val0 fs s j) s (ps 0) (errE j) := by
  intro j
  induction j with
  | zero =>
    intro _
    have e : ∀ x, at0 (val0 fs s 0) x = 0 := fun x => at0_rep (s + 1) x
    refine ⟨fun x => by rw [e]; exact zero_pos, e 0, fun x _ => ?_, fun x _ => ?_⟩
    · rw [e, e]; exact Nat.le_add_right _ _
    · rw [e, e, val_zero]; exact Nat.zero_le _
  | succ j ih =>
    intro hj
    have hr := ih (by omega)
    have hn := h.nice j (by omega)
    have hl := h.len
    have he := errE_le (k := j) (by omega)
    have st : Step (val0 fs s j) (csA fs j) s (ps j) (ps 0) (errE j) := ⟨hr, hs, h.top j (by omega), h.le 0, Nat.le_trans he (Nat.mul_le_mul_right _ (by omega)), hn.one, hn.len, hn.hi⟩
    have nx := st.next (val0_len fs s j)
    rw [val0_next fs s j (by omega), h.pr j (by omega)]
    exact nx

/-- a millionth, a thousandth of it -/
def mil : Nat := 4517329193108106637
def bil : Nat := 4472406533629990549
theorem mil_pos : Pos mil := by unfold Pos mil inf; omega
theorem bil_pos : Pos bil := by unfold Pos bil inf; omega
theorem mil_big : 300 * ep ≤ val mil := by decide +kernel
theorem mil_small : val mil ≤ wide := by decide +kernel
theorem bil_small : val bil ≤ wide := by decide +kernel

/-- a bound of all values -/
theorem few_bound {w : List Nat} {s p0 j : Nat} (h : RowE w s p0 (errE j)) (hs : s ≤ 4) (hp : p0 ≤ 1000) (hj : j ≤ 3) {x : Nat} (hx : x ≤ s) : val (at0 w x) ≤ 4001 * wide := by
  have h1 := h.bound x hx
  have h2 : p0 * wide ≤ 1000 * wide := Nat.mul_le_mul_right _ hp
  have h3 : x * (p0 * wide + errE j) ≤ 4 * (p0 * wide + errE j) := Nat.mul_le_mul_right _ (by omega)
  have h4 := errE_le hj
  have h5 := wide_ep
  generalize p0 * wide = q at *
  generalize x * (q + errE j) = y at *
  omega

theorem sub_self {a : Nat} (h : Pos a) : Ieee.double.sub a a = some 0 := by
  obtain ⟨r, h1, h2⟩ := sub_fin a a h.fin h.fin
  rw [show (num a - num a).natAbs = 0 from by omega] at h2
  have hr : r = 0 := h2.exact (k := 0) (Nat.zero_le _) (by rw [val_zero])
  have hs : subNeg a a = false := by
    unfold subNeg
    rw [h.neg]
    split
    · rfl
    · rw [decide_eq_false_iff_not]; omega
  rw [hs, word_false, hr] at h1
  exact h1

theorem near_any (a : Nat) (ha : Pos a) (hv : val a ≤ 4001 * wide) (w : World) : Calls Try.prog 28 #[.float .f64 a, .float .f64 a] w fun e w' => e = .returned (.bool true) ∧ w = w' := by
  have h1 := sub_run (sub_self ha)
  have m1 := mul_nn2 bil_pos.nn ha.nn (k := a) ha (by
    rw [bil_pos.mag, ha.mag, Nat.mul_comm]
    exact Nat.mul_le_mul_left _ bil_small)
  have hle := m1.2.2.2 bil_pos ha
  have hP : Pos (fmul bil a) := Nat.lt_of_le_of_lt hle ha
  have h2 := mul_run m1.1
  have a1 := add_pos mil_pos hP.nn (k := two 15) (by
    have := val_le hle
    have := mil_small
    rw [hP.mag, two15]
    omega)
  have h3 := add_run a1.1
  have hQ : Pos (fadd mil (fmul bil a)) := Nat.lt_of_le_of_lt a1.2.1 (two_pos (by omega))
  have h4 : (FloatKind.f64.format.order 0 (fadd mil (fmul bil a)) == some .lt || FloatKind.f64.format.order 0 (fadd mil (fmul bil a)) == some .eq) = true := by
    have e1 := cmp_lt zero_pos.fin hQ.fin
    have e2 := cmp_eq zero_pos.fin hQ.fin
    show (Ieee.double.order 0 _ == some .lt || Ieee.double.order 0 _ == some .eq) = true
    rw [e1, e2, zero_pos.num, hQ.num, val_zero]
    simp only [Bool.or_eq_true, decide_eq_true_eq]
    omega
  have h5 : (FloatKind.f64.format.order 0 0 == some .lt) = false := by decide
  generalize hR : fadd mil (fmul bil a) = R at h3 h4
  generalize hS : fmul bil a = S at h2 h3
  unfold mil at h3
  unfold bil at h2
  clear hR hS hle hP hQ a1 m1 ha hv
  go_enter Try.func28, Try.ntmps28
  go_wp2_with fail
  go_ret
  exact ⟨rfl, rfl⟩

/-! one seat more -/
theorem law_low {w : List Nat} {s p0 j : Nat} (h : RowE w s p0 (errE j)) (hs : s ≤ 4) (hp : p0 ≤ 1000) (hj : j ≤ 3) {x : Nat} (hx : x < s) :
    ∃ d, Ieee.double.sub (at0 w x) mil = some d ∧ (Ieee.double.order (at0 w (x + 1)) d == some .lt) = false := by
  have hb := few_bound h hs hp hj (x := x) (by omega)
  have hm := h.mono x hx
  have he := errE_le hj
  have pa := h.pos x
  have pb := h.pos (x + 1)
  obtain ⟨r, h1, h2⟩ := sub_fin (at0 w x) mil pa.fin mil_pos.fin
  rw [pa.num, mil_pos.num] at h2
  refine ⟨_, h1, ?_⟩
  have hmb := mil_big
  have hs2 : subNeg (at0 w x) mil = decide ((val (at0 w x) : Int) - (val mil : Int) < 0) := by
    unfold subNeg
    rw [pa.num, mil_pos.num, pa.neg]
    split
    · rename_i h9
      rw [h9, Bool.false_and]
      rfl
    · rfl
  rcases Nat.lt_or_ge (val (at0 w x)) (val mil) with c | c
  · rw [decide_eq_true (by omega)] at hs2
    rw [hs2]
    have hr : r ≤ mil := by
      apply h2.below mil
      omega
    have hf : Fin (Ieee.double.word true r) ∧ num (Ieee.double.word true r) = - (val r : Int) := by
      have hp9 : Pos r := Nat.lt_of_le_of_lt hr mil_pos
      exact ⟨(word_neg true r hp9).2.2, by rw [word_num true r hp9, if_pos rfl]⟩
    rw [cmp_lt pb.fin hf.1, pb.num, hf.2, decide_eq_false_iff_not]
    omega
  · rw [decide_eq_false (by omega)] at hs2
    rw [hs2, word_false]
    have e : ((val (at0 w x) : Int) - (val mil : Int)).natAbs = val (at0 w x) - val mil := by omega
    rw [e] at h2
    have hr : r ≤ at0 w x := h2.below _ (by omega)
    have hp9 : Pos r := Nat.lt_of_le_of_lt hr pa
    obtain ⟨k1, _⟩ := near_ep h2 hp9 (by rw [Nat.mul_one]; omega)
    rw [Nat.mul_one, Nat.mul_one] at k1
    rw [cmp_lt pb.fin hp9.fin, pb.num, hp9.num, decide_eq_false_iff_not]
    omega

theorem law_high {w : List Nat} {s p0 j : Nat} (h : RowE w s p0 (errE j)) (hs : s ≤ 4) (hp : p0 ≤ 1000) (hj : j ≤ 3) {x : Nat} (hx : x < s) :
    ∃ d e, Ieee.double.add (at0 w x) (intW (p0 : Int)) = some d ∧ Ieee.double.add d mil = some e ∧ (Ieee.double.order (at0 w (x + 1)) e == some .gt) = false := by
  have hb := few_bound h hs hp hj (x := x) (by omega)
  have hl := h.lip x hx
  have he := errE_le hj
  have pa := h.pos x
  have pb := h.pos (x + 1)
  have hmb := mil_big
  have hms := mil_small
  obtain ⟨c1, c2⟩ := intW_pos (k := p0) (by omega)
  have h2 : p0 * wide ≤ 1000 * wide := Nat.mul_le_mul_right _ hp
  have hw := wide_ep
  have a1 := add_pos pa c1.nn (k := two 15) (by rw [c1.mag, c2, two15]; omega)
  have P1 : Pos (fadd (at0 w x) (intW (p0 : Int))) := Nat.lt_of_le_of_lt a1.2.1 (two_pos (by omega))
  obtain ⟨k1, k2⟩ := near_ep (add_near pa c1) P1 (by rw [Nat.mul_one, c2]; omega)
  rw [Nat.mul_one, Nat.mul_one, c2] at k1 k2
  have a2 := add_pos P1 mil_pos.nn (k := two 15) (by rw [mil_pos.mag, two15]; omega)
  have P2 : Pos (fadd (fadd (at0 w x) (intW (p0 : Int))) mil) := Nat.lt_of_le_of_lt a2.2.1 (two_pos (by omega))
  obtain ⟨q1, q2⟩ := near_ep (add_near P1 mil_pos) P2 (by rw [Nat.mul_one]; omega)
  rw [Nat.mul_one, Nat.mul_one] at q1 q2
  refine ⟨_, _, a1.1, a2.1, ?_⟩
  rw [cmp_gt pb.fin P2.fin, pb.num, P2.num, decide_eq_false_iff_not]
  omega
end Go.Proofs.Ytnaogcpcaabbhaa
