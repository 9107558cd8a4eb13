/- Units: the program's, the document's; the law FaresUnits. -/
import Derived.Test.YtnaogcpcaabbhaaBase
namespace Go.Proofs.Ytnaogcpcaabbhaa
open Go.RowKit FloatPlain

/-- 100 -/
def hun : Nat := 4636737291354636288
theorem hun_pos : Pos hun := by unfold Pos hun inf; omega

theorem times_hun (x : Nat) (hx : x < 18446744073709551616) : (Nan x ∧ Ieee.double.mul x hun = none) ∨ ∃ y, Ieee.double.mul x hun = some y ∧ (FloatPlain.Fin y ∨ FloatPlain.Inf y) := by
  rcases three x hx with f | f | f
  · right
    obtain ⟨r, h1, h2⟩ := mul_fin x hun f hun_pos.fin
    refine ⟨_, h1, ?_⟩
    have ht := h2.top
    generalize (FloatPlain.neg x ^^ FloatPlain.neg hun) = s
    rcases Nat.lt_or_ge r inf with c | c
    · left; exact (word_neg s r c).2.2
    · right
      have e : r = inf := by omega
      rw [e]
      cases s
      · rw [word_false]; unfold FloatPlain.Inf inf; omega
      · rw [word_true]; unfold FloatPlain.Inf inf; omega
  · right
    have hr := read_inf x f
    obtain ⟨m, q, hq, hm⟩ := read_fin hun hun_pos.fin
    have hm0 : m ≠ 0 := by
      intro h0
      rw [h0, Nat.zero_mul, hun_pos.mag] at hm
      have := val_lt (show 0 < hun by unfold hun; omega)
      rw [val_zero] at this
      omega
    have hp : Ieee.double.mul x hun = some (Ieee.double.write (.infinity (FloatPlain.neg x ^^ FloatPlain.neg hun))) := by
      unfold Ieee.Format.mul
      rw [hr, hq]
      show Option.map _ (if m = 0 then none else some _) = _
      rw [if_neg hm0]; rfl
    refine ⟨_, hp, Or.inr ?_⟩
    generalize (FloatPlain.neg x ^^ FloatPlain.neg hun) = s
    show FloatPlain.Inf (Ieee.double.word s inf)
    cases s
    · rw [word_false]; unfold FloatPlain.Inf inf; omega
    · rw [word_true]; unfold FloatPlain.Inf inf; omega
  · left
    refine ⟨f, ?_⟩
    unfold Ieee.Format.mul
    rw [read_nan x f]
    cases Ieee.double.read hun <;> rfl

/-- what Units tells -/
def unV (x : Nat) : Int := match Ieee.double.mul x hun with | some y => nv y | none => 0
def unE (x : Nat) : Int := match Ieee.double.mul x hun with | some y => FloatPlain.ne y | none => 250

theorem nan_drawn (x y : Nat) (h : Ieee.double.mul x y = none) (t : TypeId) (w : World) : ∃ z w', (binOp .mul t (.float .f64 x) (.float .f64 y)).run Try.prog w = .ok (.float .f64 z) w' ∧ Nan z ∧ Below w.heap.size w w' := by
  have e : FloatKind.f64.format.mul x y = none := h
  have hn : ∀ a : Nat, Nan ((a % 2) * 2 ^ 63 + 0x7ff0000000000000 + 1 + (a / 2) % (2 ^ 52 - 1)) := by
    intro a
    have h1 : a % 2 < 2 := Nat.mod_lt _ (by decide)
    have h2 : (a / 2) % (2 ^ 52 - 1) < 2 ^ 52 - 1 := Nat.mod_lt _ (by decide)
    generalize a % 2 = u at h1 ⊢
    generalize (a / 2) % (2 ^ 52 - 1) = v at h2 ⊢
    unfold Nan inf
    omega
  have hrun : (binOp .mul t (.float .f64 x) (.float .f64 y)).run Try.prog w = ((choose (.nanBits .f64 x y)).run Try.prog w).andThen fun a w' => .ok (.float .f64 a) w' := by
    simp [binOp, Op.floatArith, e]
  rw [hrun, run_choose_drew, if_neg (by intro h; cases h)]
  exact ⟨_, _, rfl, hn _, (Below.refl _ _).drew⟩

theorem conv_int {y : Nat} {n : Int} (h : (Ieee.double.read y).toInt .zero = some n) (h1 : -9223372036854775808 ≤ n) (h2 : n < 9223372036854775808) (w : World) : (Go.Conv.floatToInt .f64 y .i64).run Try.prog w = .ok (.int .i64 n) w := by
  unfold Go.Conv.floatToInt
  have e : (FloatKind.f64.decode y).toInt .zero = some n := h
  rw [e]
  have hmin : IntKind.i64.min = -9223372036854775808 := rfl
  have hmax : IntKind.i64.max = 9223372036854775807 := rfl
  dsimp only
  rw [if_pos (by rw [hmin, hmax]; omega)]
  rfl
theorem cv_int {y : Nat} {n : Int} (h : (Ieee.double.read y).toInt .zero = some n) (h1 : -9223372036854775808 ≤ n) (h2 : n < 9223372036854775808) (w : World) : (convert 33 2 (.float .f64 y)).run Try.prog w = .ok (.int .i64 n) w := by
  have h0 := conv_int h h1 h2 w
  simp only [convert, Sem.run_bind, run_underlying Try.underlying33, run_underlying Try.underlying2, Result.andThen_ok]
  exact h0

theorem within_even {y : Nat} (f : FloatPlain.Fin y) : withinB (evenW y) 14114281232179134464 4890909195324358656 = (decide (-9223372036854775808 ≤ near y) && decide (near y ≤ 9223372036854775808)) ∧ (Ieee.double.order (evenW y) 4890909195324358656 == some .eq) = decide (near y = 9223372036854775808) := by
  obtain ⟨t1, t2, t3, t4⟩ := two_num 63 (by omega)
  rw [p63] at t1 t3
  have fe := (evenW_fin f).1
  have hw := wide_pos
  have hW : (0 : Int) < wide := by omega
  have e1 : num (evenW y) < 9223372036854775808 * (wide : Int) ↔ near y < 9223372036854775808 := by rw [evenW_num f]; exact Int.mul_lt_mul_right hW
  have e2 : num (evenW y) = 9223372036854775808 * (wide : Int) ↔ near y = 9223372036854775808 := by rw [evenW_num f]; exact ⟨fun h => Int.eq_of_mul_eq_mul_right (by omega) h, fun h => by rw [h]⟩
  have e3 : -(9223372036854775808 * (wide : Int)) < num (evenW y) ↔ -9223372036854775808 < near y := by rw [evenW_num f, ← Int.neg_mul]; exact Int.mul_lt_mul_right hW
  have e4 : num (evenW y) = -(9223372036854775808 * (wide : Int)) ↔ near y = -9223372036854775808 := by rw [evenW_num f, ← Int.neg_mul]; exact ⟨fun h => Int.eq_of_mul_eq_mul_right (by omega) h, fun h => by rw [h]⟩
  unfold withinB
  rw [hi63, lo63, cmp_gt fe t4, cmp_eq fe t4, cmp_lt fe t2, cmp_eq fe t2, t1, t3]
  constructor
  · rw [Bool.eq_iff_iff]
    simp only [Bool.and_eq_true, Bool.or_eq_true, decide_eq_true_eq, e1, e2, e3, e4]
    omega
  · rw [decide_eq_decide]; exact e2

theorem within_inf {z : Nat} (f : FloatPlain.Inf z) : withinB z 14114281232179134464 4890909195324358656 = false := by
  obtain ⟨t1, t2, t3, t4⟩ := two_num 63 (by omega)
  unfold withinB
  rw [hi63, lo63, order_inf _ _ f t4, order_inf _ _ f t2]
  cases FloatPlain.neg z <;> rfl
theorem within_nan {z lo hi : Nat} (f : Nan z) : withinB z lo hi = false := by
  unfold withinB
  rw [order_nan _ _ f]
  rfl
theorem even_inf {y : Nat} (f : FloatPlain.Inf y) : FloatPlain.Inf (evenW y) := by
  have e : evenW y = Ieee.double.word (FloatPlain.neg y) inf := by unfold evenW; rw [read_inf y f]; rfl
  rw [e]
  cases FloatPlain.neg y
  · rw [word_false]; unfold FloatPlain.Inf inf; omega
  · rw [word_true]; unfold FloatPlain.Inf inf; omega
theorem told_inf {y : Nat} (f : FloatPlain.Inf y) : told y = false := by
  unfold told
  have := f.1
  simp
  omega

set_option maxHeartbeats 1000000 in
theorem units_any (x : Nat) (hx : x < 18446744073709551616) (w : World) : Calls Try.prog 23 #[.float .f64 x] w fun e w' => e = .returned (.tuple #[.int .i64 (unV x), .int .i64 (unE x)]) ∧ Below w.heap.size w w' := by
  rcases times_hun x hx with ⟨f, hm⟩ | ⟨y, hm, f | f⟩
  · have hv : unV x = 0 ∧ unE x = 250 := by unfold unV unE; rw [hm]; exact ⟨rfl, rfl⟩
    rw [hv.1, hv.2]
    obtain ⟨z, w1, hz, hzn, hb1⟩ := nan_drawn x hun hm 33 w
    obtain ⟨z2, w2, hz2, hzn2, hb2⟩ := even_nan z w1 hzn
    have HB := hid (hb1.trans (hb2.mono hb1.size))
    have HW := hid (within_nan (lo := 14114281232179134464) (hi := 4890909195324358656) hzn2)
    unfold hun at hz
    clear hv f hm hx hzn hzn2 hb1 hb2
    go_enter Try.func23, Try.ntmps23
    go_wp2_with fail
    refine (within_any _ _ _ _).mono ?_
    rintro e w5 ⟨rfl, hw⟩
    obtain rfl := hw
    rw [HW.out]
    go_wp2_with fail
    go_ret2
    exact ⟨rfl, HB.out⟩
  · have hmr := mul_run hm
    unfold hun at hmr
    have hrun := even_real y w (by obtain ⟨m, q, h1, _⟩ := read_fin y f; rw [h1]; rfl)
    obtain ⟨e1, e2⟩ := within_even f
    have HE1 := hid e1
    have e2' : (FloatKind.f64.format.order (evenW y) 4890909195324358656 == some .eq) = decide (near y = 9223372036854775808) := e2
    have HI := hid (evenW_int f)
    have htold : told y = (decide (-9223372036854775808 ≤ near y) && decide (near y < 9223372036854775808)) := by
      unfold told
      rw [decide_eq_true f.1, Bool.true_and]
    have hv : unV x = nv y ∧ unE x = FloatPlain.ne y := by unfold unV unE; rw [hm]; exact ⟨rfl, rfl⟩
    have hv1 := hv.1
    have hv2 := hv.2
    unfold nv at hv1
    unfold FloatPlain.ne at hv2
    rw [htold] at hv1 hv2
    obtain ⟨N, hN⟩ : ∃ N, near y = N := ⟨_, rfl⟩
    rw [hN] at HE1 e2' HI hv1 hv2
    by_cases c1 : N < -9223372036854775808
    · have hd : decide (-9223372036854775808 ≤ N) = false := by rw [decide_eq_false_iff_not]; omega
      rw [hd, Bool.false_and] at HE1 hv1 hv2
      rw [hv1, hv2]
      clear hv hv1 hv2 htold e1 e2 f hm hN
      go_enter Try.func23, Try.ntmps23
      go_wp2_with fail
      refine (within_any _ _ _ _).mono ?_
      rintro e w5 ⟨rfl, hw⟩
      obtain rfl := hw
      rw [HE1.out]
      go_wp2_with fail
      go_ret2
      exact ⟨rfl, Below.refl _ _⟩
    by_cases c2 : N < 9223372036854775808
    · have hd : decide (-9223372036854775808 ≤ N) = true := by rw [decide_eq_true_iff]; omega
      have hd2 : decide (N ≤ 9223372036854775808) = true := by rw [decide_eq_true_iff]; omega
      have hd3 : decide (N = 9223372036854775808) = false := by rw [decide_eq_false_iff_not]; omega
      rw [hd, hd2] at HE1
      rw [hd3] at e2'
      rw [hd, decide_eq_true c2] at hv1 hv2
      have hv1' : unV x = N := by rw [hv1]; rfl
      have hv2' : unE x = 0 := by rw [hv2]; rfl
      rw [hv1', hv2']
      have hcv := cv_int HI.out (by omega) c2
      clear hv hv1 hv2 htold e1 e2 f hm hN hd hd2 hd3 c1 c2 hv1' hv2'
      go_enter Try.func23, Try.ntmps23
      go_wp2_with fail
      refine (within_any _ _ _ _).mono ?_
      rintro e w5 ⟨rfl, hw⟩
      obtain rfl := hw
      rw [HE1.out]
      go_wp2_with fail
      go_ret2
      exact ⟨rfl, Below.refl _ _⟩
    · have hd : decide (-9223372036854775808 ≤ N) = true := by rw [decide_eq_true_iff]; omega
      have hd4 : decide (N < 9223372036854775808) = false := by rw [decide_eq_false_iff_not]; omega
      rw [hd] at HE1
      rw [hd, hd4] at hv1 hv2
      have hv1' : unV x = 0 := by rw [hv1]; rfl
      have hv2' : unE x = 250 := by rw [hv2]; rfl
      rw [hv1', hv2']
      by_cases c3 : N = 9223372036854775808
      · have hd2 : decide (N ≤ 9223372036854775808) = true := by rw [decide_eq_true_iff]; omega
        have hd3 : decide (N = 9223372036854775808) = true := by rw [decide_eq_true_iff]; exact c3
        rw [hd2] at HE1
        rw [hd3] at e2'
        clear hv hv1 hv2 htold e1 e2 f hm hN hd hd2 hd3 hd4 c1 c2 c3 hv1' hv2'
        go_enter Try.func23, Try.ntmps23
        go_wp2_with fail
        refine (within_any _ _ _ _).mono ?_
        rintro e w5 ⟨rfl, hw⟩
        obtain rfl := hw
        rw [HE1.out]
        go_wp2_with fail
        go_ret2
        exact ⟨rfl, Below.refl _ _⟩
      · have hd2 : decide (N ≤ 9223372036854775808) = false := by rw [decide_eq_false_iff_not]; omega
        rw [hd2] at HE1
        clear hv hv1 hv2 htold e1 e2 f hm hN hd hd2 hd4 c1 c2 c3 hv1' hv2'
        go_enter Try.func23, Try.ntmps23
        go_wp2_with fail
        refine (within_any _ _ _ _).mono ?_
        rintro e w5 ⟨rfl, hw⟩
        obtain rfl := hw
        rw [HE1.out]
        go_wp2_with fail
        go_ret2
        exact ⟨rfl, Below.refl _ _⟩
  · have hmr := mul_run hm
    unfold hun at hmr
    have hrun := even_real y w (by rw [read_inf y f]; rfl)
    have HW := hid (within_inf (even_inf f))
    have hv : unV x = 0 ∧ unE x = 250 := by
      unfold unV unE; rw [hm]
      show nv y = 0 ∧ FloatPlain.ne y = 250
      unfold nv FloatPlain.ne
      rw [told_inf f]; exact ⟨rfl, rfl⟩
    rw [hv.1, hv.2]
    clear hv f hm hx
    go_enter Try.func23, Try.ntmps23
    go_wp2_with fail
    refine (within_any _ _ _ _).mono ?_
    rintro e w5 ⟨rfl, hw⟩
    obtain rfl := hw
    rw [HW.out]
    go_wp2_with fail
    go_ret2
    exact ⟨rfl, Below.refl _ _⟩

theorem nhalf : FloatPlain.Fin 13826050856027422720 ∧ num 13826050856027422720 = -(H : Int) := by
  obtain ⟨a, b, c⟩ := word_neg true half half_pos
  have d := word_num true half half_pos
  rw [word_true] at c d
  have e : (9223372036854775808 + half : Nat) = 13826050856027422720 := by unfold half; omega
  rw [e] at c d
  rw [val_half] at d
  exact ⟨c, d⟩

theorem self_eq {y : Nat} (f : FloatPlain.Fin y) : (FloatKind.f64.format.order y y != some .eq) = false := by
  have := cmp_eq f f
  rw [decide_eq_true rfl] at this
  show (!(Ieee.double.order y y == some .eq)) = false
  rw [this]; rfl
theorem self_inf {y : Nat} (f : FloatPlain.Inf y) : (FloatKind.f64.format.order y y != some .eq) = false := by
  show (Ieee.double.order y y != some .eq) = false
  unfold Ieee.Format.order
  rw [read_inf _ f]
  cases FloatPlain.neg y <;> rfl
theorem self_nan {y : Nat} (f : Nan y) : (FloatKind.f64.format.order y y != some .eq) = true := by
  show (Ieee.double.order y y != some .eq) = true
  rw [order_nan y y f]; rfl

set_option maxRecDepth 8000 in
set_option maxHeartbeats 2000000 in
theorem refUnits_any (x : Nat) (hx : x < 18446744073709551616) (w : World) : Calls Try.prog 24 #[.float .f64 x] w fun e w' => e = .returned (.tuple #[.int .i64 (unV x), .int .i64 (unE x)]) ∧ Below w.heap.size w w' := by
  rcases times_hun x hx with ⟨f, hm⟩ | ⟨y, hm, f | f⟩
  · have hv : unV x = 0 ∧ unE x = 250 := by unfold unV unE; rw [hm]; exact ⟨rfl, rfl⟩
    rw [hv.1, hv.2]
    obtain ⟨z, w1, hz, hzn, hb1⟩ := nan_drawn x hun hm 33 w
    have HB := hid hb1
    have hn := self_nan hzn
    unfold hun at hz
    clear hv f hm hx hzn hb1
    go_enter Try.func24, Try.ntmps24
    go_wp2_with fail
    go_ret2
    exact ⟨rfl, HB.out⟩
  · have hmr := mul_run hm
    unfold hun at hmr
    have hn := self_eq f
    have hv : unV x = nv y ∧ unE x = FloatPlain.ne y := by unfold unV unE; rw [hm]; exact ⟨rfl, rfl⟩
    rw [hv.1, hv.2]
    obtain ⟨t1, t2, t3, t4⟩ := two_num 63 (by omega)
    rw [← hi63, p63] at t1
    rw [← hi63] at t2
    rw [← lo63] at t3 t4
    rw [p63] at t3
    obtain ⟨g2, hg2⟩ : ∃ b, (FloatKind.f64.format.order y 4890909195324358656 == some .gt || FloatKind.f64.format.order y 4890909195324358656 == some .eq) = b := ⟨_, rfl⟩
    obtain ⟨g3, hg3⟩ : ∃ b, (FloatKind.f64.format.order y 14114281232179134464 == some .lt) = b := ⟨_, rfl⟩
    have ht : told y = (!g2 && !g3) := by
      subst hg2 hg3
      show told y = (!((Ieee.double.order y 4890909195324358656 == some .gt) || (Ieee.double.order y 4890909195324358656 == some .eq)) && !(Ieee.double.order y 14114281232179134464 == some .lt))
      rw [told_fin f, cmp_gt f t2, cmp_eq f t2, cmp_lt f t4, t1, t3]
      rw [Bool.eq_iff_iff]
      simp only [Bool.and_eq_true, Bool.not_eq_true', decide_eq_true_eq, Bool.or_eq_false_iff, decide_eq_false_iff_not]
      omega
    have HT := hid ht
    clear t1 t2 t3 t4 ht hv
    cases g2
    · cases g3
      · have htold : told y = true := HT.out
        obtain ⟨T, hT⟩ : ∃ T, truncW y = T := ⟨_, rfl⟩
        obtain ⟨r1, r2⟩ := trunc_range htold f
        obtain ⟨F, s1, s2, s3⟩ := trunc_law f
        obtain ⟨n1, n2, n3⟩ := near_left y
        obtain ⟨b1, b2⟩ := near_bound htold
        have hnv : nv y = near y := by unfold nv; rw [htold]; rfl
        have hne : FloatPlain.ne y = 0 := by unfold FloatPlain.ne; rw [htold]; rfl
        have hcv := cv_int (y := y) (n := T) (by rw [trunc_fin f, ← hT]; unfold truncW; rfl) (by omega) (by omega)
        rw [hT] at r1 r2 s1 n1 n2 n3
        rw [← s3] at n1 n2 n3
        have hci := conv_i64_real T
        have hsub := sub_run s1
        have hgt : (FloatKind.f64.format.order F 4602678819172646912 == some .gt) = decide ((H : Int) < num F) := by
          show (Ieee.double.order F half == some .gt) = _
          rw [cmp_gt s2 half_pos.fin, half_pos.num, val_half]
        have heq : (FloatKind.f64.format.order F 4602678819172646912 == some .eq) = decide (num F = (H : Int)) := by
          show (Ieee.double.order F half == some .eq) = _
          rw [cmp_eq s2 half_pos.fin, half_pos.num, val_half]
        have hlt : (FloatKind.f64.format.order F 13826050856027422720 == some .lt) = decide (num F < -(H : Int)) := by
          show (Ieee.double.order F 13826050856027422720 == some .lt) = _
          rw [cmp_lt s2 nhalf.1, nhalf.2]
        have hle : (FloatKind.f64.format.order F 13826050856027422720 == some .eq) = decide (num F = -(H : Int)) := by
          show (Ieee.double.order F 13826050856027422720 == some .eq) = _
          rw [cmp_eq s2 nhalf.1, nhalf.2]
        have hodd : (T.tmod 2 != 0) = decide (T % 2 ≠ 0) := by
          rw [Bool.eq_iff_iff]
          simp only [decide_eq_true_eq, bne_iff_ne]
          rcases Int.lt_or_le T 0 with h9 | h9
          · have : T.tmod 2 = -((-T) % 2) := by
              rw [← Int.tmod_eq_emod_of_nonneg (by omega), Int.neg_tmod, Int.neg_neg]
            rw [this]; omega
          · rw [Int.tmod_eq_emod_of_nonneg h9]
        rw [hnv, hne]
        have hH : (0 : Int) < (H : Int) := by have := H_pos; omega
        have HN := hid (show near y = if (H : Int) < num F ∨ (num F = H ∧ T % 2 ≠ 0) then T + 1 else if num F < -(H : Int) ∨ (num F = -(H : Int) ∧ T % 2 ≠ 0) then T - 1 else T by
          by_cases c1 : (H : Int) < num F ∨ (num F = H ∧ T % 2 ≠ 0)
          · rw [if_pos c1, n1 c1]
          · rw [if_neg c1]
            by_cases c2 : num F < -(H : Int) ∨ (num F = -(H : Int) ∧ T % 2 ≠ 0)
            · rw [if_pos c2, n2 c2]
            · rw [if_neg c2, n3 c1 c2])
        have HB1 := hid b1
        have HB2 := hid b2
        generalize near y = N at HN HB1 HB2 ⊢
        generalize num F = L at hgt heq hlt hle HN
        generalize (H : Int) = h at hH hgt heq hlt hle HN
        generalize intW T = tw at hci hsub
        clear n1 n2 n3 s1 s2 s3 htold hT f hm hnv hne hx b1 b2
        by_cases o : T % 2 ≠ 0
        · rw [decide_eq_true o] at hodd
          by_cases c1 : h ≤ L
          · have e1 : N = T + 1 := by rw [HN.out, if_pos (by omega)]
            have hw1 : IntKind.i64.wrap (T + 1) = T + 1 := by rw [IntKind.wrap_i64]; have := HB2.out; omega
            rw [e1]
            have x3 : decide (L < -h) = false := by rw [decide_eq_false_iff_not]; omega
            have x4 : decide (L = -h) = false := by rw [decide_eq_false_iff_not]; omega
            rw [x3] at hlt
            rw [x4] at hle
            by_cases c2 : h < L
            · rw [decide_eq_true c2] at hgt
              clear hodd hH c1 c2 x3 x4 e1 o heq
              go_enter Try.func24, Try.ntmps24
              go_wp2_with fail
              go_ret2
              exact ⟨rfl, Below.refl _ _⟩
            · rw [decide_eq_false c2] at hgt
              rw [decide_eq_true (by omega)] at heq
              clear hH c1 c2 x3 x4 e1 o
              go_enter Try.func24, Try.ntmps24
              go_wp2_with fail
              go_ret2
              exact ⟨rfl, Below.refl _ _⟩
          · have x1 : decide (h < L) = false := by rw [decide_eq_false_iff_not]; omega
            have x2 : decide (L = h) = false := by rw [decide_eq_false_iff_not]; omega
            rw [x1] at hgt
            rw [x2] at heq
            by_cases c3 : L ≤ -h
            · have e1 : N = T - 1 := by rw [HN.out, if_neg (by omega), if_pos (by omega)]
              have hw1 : IntKind.i64.wrap (T - 1) = T - 1 := by rw [IntKind.wrap_i64]; have := HB1.out; omega
              rw [e1]
              by_cases c2 : L < -h
              · rw [decide_eq_true c2] at hlt
                clear hodd hH c1 c2 c3 x1 x2 e1 o hle
                go_enter Try.func24, Try.ntmps24
                go_wp2_with fail
                go_ret2
                exact ⟨rfl, Below.refl _ _⟩
              · rw [decide_eq_false c2] at hlt
                rw [decide_eq_true (by omega)] at hle
                clear hH c1 c2 c3 x1 x2 e1 o
                go_enter Try.func24, Try.ntmps24
                go_wp2_with fail
                go_ret2
                exact ⟨rfl, Below.refl _ _⟩
            · have e1 : N = T := by rw [HN.out, if_neg (by omega), if_neg (by omega)]
              rw [e1]
              have x3 : decide (L < -h) = false := by rw [decide_eq_false_iff_not]; omega
              have x4 : decide (L = -h) = false := by rw [decide_eq_false_iff_not]; omega
              rw [x3] at hlt
              rw [x4] at hle
              clear hodd hH c1 c3 x1 x2 x3 x4 e1 o
              go_enter Try.func24, Try.ntmps24
              go_wp2_with fail
              go_ret2
              exact ⟨rfl, Below.refl _ _⟩
        · rw [decide_eq_false o] at hodd
          by_cases c1 : h < L
          · have e1 : N = T + 1 := by rw [HN.out, if_pos (by omega)]
            have hw1 : IntKind.i64.wrap (T + 1) = T + 1 := by rw [IntKind.wrap_i64]; have := HB2.out; omega
            rw [e1]
            have x3 : decide (L < -h) = false := by rw [decide_eq_false_iff_not]; omega
            have x4 : decide (L = -h) = false := by rw [decide_eq_false_iff_not]; omega
            rw [x3] at hlt
            rw [x4] at hle
            rw [decide_eq_true c1] at hgt
            clear hodd hH c1 x3 x4 e1 o heq
            go_enter Try.func24, Try.ntmps24
            go_wp2_with fail
            go_ret2
            exact ⟨rfl, Below.refl _ _⟩
          · rw [decide_eq_false c1] at hgt
            by_cases c3 : L < -h
            · have e1 : N = T - 1 := by rw [HN.out, if_neg (by omega), if_pos (by omega)]
              have hw1 : IntKind.i64.wrap (T - 1) = T - 1 := by rw [IntKind.wrap_i64]; have := HB1.out; omega
              rw [e1]
              have x2 : decide (L = h) = false := by rw [decide_eq_false_iff_not]; omega
              rw [x2] at heq
              rw [decide_eq_true c3] at hlt
              clear hodd hH c1 c3 x2 e1 o hle
              go_enter Try.func24, Try.ntmps24
              go_wp2_with fail
              go_ret2
              exact ⟨rfl, Below.refl _ _⟩
            · have e1 : N = T := by rw [HN.out, if_neg (by omega), if_neg (by omega)]
              rw [e1]
              rw [decide_eq_false c3] at hlt
              obtain ⟨be, hbe⟩ : ∃ b, decide (L = h) = b := ⟨_, rfl⟩
              obtain ⟨bl, hbl⟩ : ∃ b, decide (L = -h) = b := ⟨_, rfl⟩
              rw [hbe] at heq
              rw [hbl] at hle
              clear hH c1 c3 e1 o hbe hbl HN
              cases be <;> cases bl
              all_goals
                go_enter Try.func24, Try.ntmps24
                go_wp2_with fail
                go_ret2
                exact ⟨rfl, Below.refl _ _⟩
      · have hv : nv y = 0 ∧ FloatPlain.ne y = 250 := by
          unfold nv FloatPlain.ne; rw [HT.out]; exact ⟨rfl, rfl⟩
        rw [hv.1, hv.2]
        clear hv f hm hx
        go_enter Try.func24, Try.ntmps24
        go_wp2_with fail
        go_ret2
        exact ⟨rfl, Below.refl _ _⟩
    · have hv : nv y = 0 ∧ FloatPlain.ne y = 250 := by
        unfold nv FloatPlain.ne; rw [HT.out]; exact ⟨rfl, rfl⟩
      rw [hv.1, hv.2]
      clear hv f hm hx hg3
      go_enter Try.func24, Try.ntmps24
      go_wp2_with fail
      go_ret2
      exact ⟨rfl, Below.refl _ _⟩
  · have hmr := mul_run hm
    unfold hun at hmr
    have hn := self_inf f
    have hv : unV x = 0 ∧ unE x = 250 := by
      unfold unV unE; rw [hm]
      show nv y = 0 ∧ FloatPlain.ne y = 250
      unfold nv FloatPlain.ne
      rw [told_inf f]; exact ⟨rfl, rfl⟩
    rw [hv.1, hv.2]
    obtain ⟨t1, t2, t3, t4⟩ := two_num 63 (by omega)
    rw [← hi63] at t2
    rw [← lo63] at t4
    have hg2 : (FloatKind.f64.format.order y 4890909195324358656 == some .gt || FloatKind.f64.format.order y 4890909195324358656 == some .eq) = !FloatPlain.neg y := by
      show (Ieee.double.order y 4890909195324358656 == some .gt || Ieee.double.order y 4890909195324358656 == some .eq) = _
      rw [order_inf _ _ f t2]
      cases FloatPlain.neg y <;> rfl
    have hg3 : (FloatKind.f64.format.order y 14114281232179134464 == some .lt) = FloatPlain.neg y := by
      show (Ieee.double.order y 14114281232179134464 == some .lt) = _
      rw [order_inf _ _ f t4]
      cases FloatPlain.neg y <;> rfl
    generalize FloatPlain.neg y = b at hg2 hg3
    clear hv f hm hx t1 t2 t3 t4
    cases b
    · simp only [Bool.not_false] at hg2
      go_enter Try.func24, Try.ntmps24
      go_wp2_with fail
      go_ret2
      exact ⟨rfl, Below.refl _ _⟩
    · simp only [Bool.not_true] at hg2
      go_enter Try.func24, Try.ntmps24
      go_wp2_with fail
      go_ret2
      exact ⟨rfl, Below.refl _ _⟩
end Go.Proofs.Ytnaogcpcaabbhaa
