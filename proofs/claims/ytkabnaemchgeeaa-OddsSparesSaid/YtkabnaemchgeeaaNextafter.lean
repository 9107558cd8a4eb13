/- Nextafter tells some float. -/
import Derived.Test.YtkabnaemchgeeaaNearest
namespace Go.Proofs.Ytkabnaemchgeeaa
open Go.RowKit FloatPlain

theorem nan_any (w : World) : Calls Try.prog 24 #[] w fun e w' => e = .returned (.float .f64 9221120237041090561) ∧ w = w' := by
  have h := real_bits
  go_enter Try.func24, Try.ntmps24
  go_wp2_with fail
  go_ret
  exact ⟨rfl, rfl⟩

theorem or_lt (a b : Int) : (bits .or .u64 a b).toNat < 18446744073709551616 := by
  show (IntKind.u64.wrap _).toNat < _
  rw [IntKind.wrap_u64]; omega

theorem sign_any (x y : Nat) (w : World) : Calls Try.prog 40 #[.float .f64 x, .float .f64 y] w fun e w' => ∃ z, z < 18446744073709551616 ∧ e = .returned (.float .f64 z) ∧ w = w' := by
  have h := real_bits
  have h2 := bits_real
  go_enter Try.func40, Try.ntmps40
  go_wp2_with fail
  go_ret
  exact ⟨_, or_lt _ _, rfl, rfl⟩

set_option maxHeartbeats 2000000 in
theorem after_any (x y : Nat) (hx : x < 18446744073709551616) (w : World) : Calls Try.prog 26 #[.float .f64 x, .float .f64 y] w fun e w' => ∃ z, z < 18446744073709551616 ∧ e = .returned (.float .f64 z) ∧ w = w' := by
  obtain ⟨n1, hn1⟩ : ∃ b, (FloatKind.f64.format.order x x != some .eq) = b := ⟨_, rfl⟩
  obtain ⟨n2, hn2⟩ : ∃ b, (FloatKind.f64.format.order y y != some .eq) = b := ⟨_, rfl⟩
  obtain ⟨e1, he1⟩ : ∃ b, (FloatKind.f64.format.order x y == some .eq) = b := ⟨_, rfl⟩
  obtain ⟨e2, he2⟩ : ∃ b, (FloatKind.f64.format.order x 0 == some .eq) = b := ⟨_, rfl⟩
  obtain ⟨g1, hg1⟩ : ∃ b, (FloatKind.f64.format.order y x == some .gt) = b := ⟨_, rfl⟩
  obtain ⟨g2, hg2⟩ : ∃ b, (FloatKind.f64.format.order x 0 == some .gt) = b := ⟨_, rfl⟩
  have hrb := real_bits
  have hbr := bits_real
  have HN1 := hid hn1
  have HN2 := hid hn2
  clear hn1 hn2
  cases n1
  · cases n2
    · cases e1
      · cases e2
        · have hb : ∀ z : Int, (IntKind.u64.wrap z).toNat < 18446744073709551616 := by intro z; rw [IntKind.wrap_u64]; omega
          have HBD := hid hb
          clear hb
          cases g1 <;> cases g2
          all_goals
            go_enter Try.func26, Try.ntmps26
            go_wp2_with fail
            refine (isNaN_any _ _).mono ?_
            rintro e w1 ⟨rfl, hw⟩
            obtain rfl := hw
            rw [HN1.out]
            go_wp2_with fail
            refine (isNaN_any _ _).mono ?_
            rintro e w1 ⟨rfl, hw⟩
            obtain rfl := hw
            rw [HN2.out]
            go_wp2_with fail
            go_ret
            exact ⟨_, HBD.out _, rfl, rfl⟩
        · go_enter Try.func26, Try.ntmps26
          go_wp2_with fail
          refine (isNaN_any _ _).mono ?_
          rintro e w1 ⟨rfl, hw⟩
          obtain rfl := hw
          rw [HN1.out]
          go_wp2_with fail
          refine (isNaN_any _ _).mono ?_
          rintro e w1 ⟨rfl, hw⟩
          obtain rfl := hw
          rw [HN2.out]
          go_wp2_with fail
          refine (sign_any _ _ _).mono ?_
          rintro e w1 ⟨z, hz, rfl, hw⟩
          obtain rfl := hw
          have HZ := hid hz
          clear hz
          go_wp2_with fail
          go_ret
          exact ⟨_, HZ.out, rfl, rfl⟩
      · go_enter Try.func26, Try.ntmps26
        go_wp2_with fail
        refine (isNaN_any _ _).mono ?_
        rintro e w1 ⟨rfl, hw⟩
        obtain rfl := hw
        rw [HN1.out]
        go_wp2_with fail
        refine (isNaN_any _ _).mono ?_
        rintro e w1 ⟨rfl, hw⟩
        obtain rfl := hw
        rw [HN2.out]
        go_wp2_with fail
        go_ret
        exact ⟨_, hx, rfl, rfl⟩
    · go_enter Try.func26, Try.ntmps26
      go_wp2_with fail
      refine (isNaN_any _ _).mono ?_
      rintro e w1 ⟨rfl, hw⟩
      obtain rfl := hw
      rw [HN1.out]
      go_wp2_with fail
      refine (isNaN_any _ _).mono ?_
      rintro e w1 ⟨rfl, hw⟩
      obtain rfl := hw
      rw [HN2.out]
      go_wp2_with fail
      refine (nan_any _).mono ?_
      rintro e w1 ⟨rfl, hw⟩
      obtain rfl := hw
      go_wp2_with fail
      go_ret
      exact ⟨_, by omega, rfl, rfl⟩
  · go_enter Try.func26, Try.ntmps26
    go_wp2_with fail
    refine (isNaN_any _ _).mono ?_
    rintro e w1 ⟨rfl, hw⟩
    obtain rfl := hw
    rw [HN1.out]
    go_wp2_with fail
    refine (nan_any _).mono ?_
    rintro e w1 ⟨rfl, hw⟩
    obtain rfl := hw
    go_wp2_with fail
    go_ret
    exact ⟨_, by omega, rfl, rfl⟩
end Go.Proofs.Ytkabnaemchgeeaa
