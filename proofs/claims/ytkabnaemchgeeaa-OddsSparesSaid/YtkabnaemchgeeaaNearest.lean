/- Nearest: the program's. -/
import Derived.Test.YtkabnaemchgeeaaBody
namespace Go.Proofs.Ytkabnaemchgeeaa
open Go.RowKit FloatPlain

theorem isNaN_any (x : Nat) (w : World) : Calls Try.prog 35 #[.float .f64 x] w fun e w' => e = .returned (.bool (FloatKind.f64.format.order x x != some .eq)) ∧ w = w' := by
  go_enter Try.func35, Try.ntmps35
  go_wp2
  go_ret
  exact ⟨rfl, rfl⟩

theorem conv_int {y : Nat} {n : Int} (h : (Ieee.double.read y).toInt .zero = some n) (h1 : -9223372036854775808 ≤ n) (h2 : n < 9223372036854775808) (w : World) : (Go.Conv.floatToInt .f64 y .i64).run Try.prog w = .ok (.int .i64 n) w := by
  unfold Go.Conv.floatToInt
  have e : (FloatKind.f64.decode y).toInt .zero = some n := h
  rw [e]
  have hmin : IntKind.i64.min = -9223372036854775808 := rfl
  have hmax : IntKind.i64.max = 9223372036854775807 := rfl
  dsimp only
  rw [if_pos (by rw [hmin, hmax]; omega)]
  rfl

theorem cv_int {y : Nat} {n : Int} (h : (Ieee.double.read y).toInt .zero = some n) (h1 : -9223372036854775808 ≤ n) (h2 : n < 9223372036854775808) (w : World) : (convert 22 2 (.float .f64 y)).run Try.prog w = .ok (.int .i64 n) w := by
  have h0 := conv_int h h1 h2 w
  simp only [convert, Sem.run_bind, run_underlying Try.underlying22, run_underlying Try.underlying2, Result.andThen_ok]
  exact h0

theorem nearest_any (x : Nat) (hx : x < 18446744073709551616) (w : World) : Calls Try.prog 17 #[.float .f64 x] w fun e w' => e = .returned (.tuple #[.int .i64 (nv x), .int .i64 (ne x)]) ∧ Below w.heap.size w w' := by
  rcases three x hx with f | f | f
  · have hrun := even_real x w (by obtain ⟨m, q, h1, _⟩ := read_fin x f; rw [h1]; rfl)
    have h2 := (evenW_fin f).1
    have hn : (FloatKind.f64.format.order (evenW x) (evenW x) != some .eq) = false := by
      have := cmp_eq h2 h2
      rw [decide_eq_true rfl] at this
      show (!(Ieee.double.order (evenW x) (evenW x) == some .eq)) = false
      rw [this]; rfl
    obtain ⟨b1, hb1⟩ : ∃ b, decide (near x < -9223372036854775808) = b := ⟨_, rfl⟩
    obtain ⟨b2, hb2⟩ : ∃ b, decide (9223372036854775808 ≤ near x) = b := ⟨_, rfl⟩
    have hlo : (FloatKind.f64.format.order (evenW x) 14114281232179134464 == some .lt) = b1 := (even_lo f).trans hb1
    have hhi : (FloatKind.f64.format.order (evenW x) 4890909195324358656 == some .gt || FloatKind.f64.format.order (evenW x) 4890909195324358656 == some .eq) = b2 := (even_hi f).trans hb2
    have HB1 := hid hb1
    have HB2 := hid hb2
    clear hb1 hb2
    have HI := hid (evenW_int f)
    have HF := hid f
    clear h2 f
    go_enter Try.func17, Try.ntmps17
    go_wp2_with fail
    refine (isNaN_any _ _).mono ?_
    rintro e w1 ⟨rfl, hw⟩
    obtain rfl := hw
    rw [hn]
    cases b1
    · cases b2
      · have r1 : -9223372036854775808 ≤ near x := by have := HB1.out; simpa using this
        have r2 : near x < 9223372036854775808 := by have := HB2.out; simpa using this
        have hcv := cv_int HI.out r1 r2
        go_wp2_with fail
        go_ret2
        refine ⟨?_, Below.refl _ _⟩
        have ht : told x = true := by
          unfold told
          have := HF.out.1
          simp
          omega
        unfold nv ne
        rw [ht]; rfl
      · go_wp2_with fail
        go_ret2
        refine ⟨?_, Below.refl _ _⟩
        have ht : told x = false := by
          unfold told
          have := HB2.out
          simp at this ⊢
          intro _ _; omega
        unfold nv ne
        rw [ht]; rfl
    · go_wp2_with fail
      go_ret2
      refine ⟨?_, Below.refl _ _⟩
      have ht : told x = false := by
        unfold told
        have := HB1.out
        simp at this ⊢
        intro _ _; omega
      unfold nv ne
      rw [ht]; rfl
  · have hrun := even_real x w (by rw [read_inf x f]; rfl)
    have h2 : Inf (evenW x) ∧ FloatPlain.neg (evenW x) = FloatPlain.neg x := by
      have e : evenW x = Ieee.double.word (FloatPlain.neg x) inf := by unfold evenW; rw [read_inf x f]; rfl
      rw [e]
      cases FloatPlain.neg x
      · rw [word_false]; exact ⟨by unfold Inf inf; omega, by decide⟩
      · rw [word_true]; exact ⟨by unfold Inf inf; omega, by decide⟩
    obtain ⟨h2, h3⟩ := h2
    have t1 := (two_num 63 (by omega)).2.1
    have t2 := (two_num 63 (by omega)).2.2.2
    rw [← hi63] at t1
    rw [← lo63] at t2
    have hn : (FloatKind.f64.format.order (evenW x) (evenW x) != some .eq) = false := by
      show (Ieee.double.order (evenW x) (evenW x) != some .eq) = false
      unfold Ieee.Format.order
      rw [read_inf _ h2]
      cases FloatPlain.neg (evenW x) <;> rfl
    have hlo : (FloatKind.f64.format.order (evenW x) 14114281232179134464 == some .lt) = FloatPlain.neg x := by
      show (Ieee.double.order (evenW x) 14114281232179134464 == some .lt) = _
      rw [order_inf _ _ h2 t2, h3]
      cases FloatPlain.neg x <;> rfl
    have hhi : (FloatKind.f64.format.order (evenW x) 4890909195324358656 == some .gt || FloatKind.f64.format.order (evenW x) 4890909195324358656 == some .eq) = !FloatPlain.neg x := by
      show (Ieee.double.order (evenW x) 4890909195324358656 == some .gt || Ieee.double.order (evenW x) 4890909195324358656 == some .eq) = _
      rw [order_inf _ _ h2 t1, h3]
      cases FloatPlain.neg x <;> rfl
    have ht : told x = false := by
      unfold told
      have := f.1
      simp
      omega
    have HTD := hid ht
    generalize FloatPlain.neg x = b at hlo hhi
    clear h2 h3 t1 t2 f ht
    go_enter Try.func17, Try.ntmps17
    go_wp2_with fail
    refine (isNaN_any _ _).mono ?_
    rintro e w1 ⟨rfl, hw⟩
    obtain rfl := hw
    rw [hn]
    cases b
    · simp only [Bool.not_false] at hhi
      go_wp2_with fail
      go_ret2
      refine ⟨?_, Below.refl _ _⟩
      unfold nv ne
      rw [HTD.out]; rfl
    · go_wp2_with fail
      go_ret2
      refine ⟨?_, Below.refl _ _⟩
      unfold nv ne
      rw [HTD.out]; rfl
  · obtain ⟨y, w', hrun, hy, hb⟩ := even_nan x w f
    have hn : (FloatKind.f64.format.order y y != some .eq) = true := by
      show (Ieee.double.order y y != some .eq) = true
      rw [order_nan y y hy]; rfl
    have HF := hid f
    have HB := hid hb
    clear f hb hy
    go_enter Try.func17, Try.ntmps17
    go_wp2_with fail
    refine (isNaN_any _ _).mono ?_
    rintro e w1 ⟨rfl, hw⟩
    obtain rfl := hw
    rw [hn]
    go_wp2_with fail
    go_ret2
    refine ⟨?_, HB.out⟩
    have ht : told x = false := by
      unfold told
      have := HF.out
      unfold Nan at this
      simp
      omega
    unfold nv ne
    rw [ht]; rfl
end Go.Proofs.Ytkabnaemchgeeaa
