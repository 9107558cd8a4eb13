/- The laws OddsNearest and OddsNear. -/
import Derived.Test.YtkabnaemchgeeaaNextafter
import Derived.Test.YtkabnaemchgeeaaSame
namespace Go.Proofs.Ytkabnaemchgeeaa
open Go.RowKit FloatPlain

theorem write_lt (d : Ieee.Datum) : Ieee.double.write d < 18446744073709551616 := Ieee.Format.write_lt Ieee.double d
theorem intW_lt (n : Int) : intW n < 18446744073709551616 := write_lt _

theorem conv_real (n : Int) (w : World) : (convert 2 22 (.int .i64 n)).run Try.prog w = .ok (.float .f64 (intW n)) w :=
  run_convert_int_float w 2 22 .i64 .f64 n (by rw [Try.underlying2]; rfl) Try.underlying22

theorem negF (x : Nat) (hx : x < 18446744073709551616) : Go.Op.negFloat .f64 x < 18446744073709551616 ∧ Go.Op.negFloat .f64 x % 9223372036854775808 = x % 9223372036854775808 ∧ Go.Op.negFloat .f64 x / 9223372036854775808 = 1 - x / 9223372036854775808 := by
  have e : Go.Op.negFloat .f64 x = x ^^^ 2 ^ 63 := rfl
  rw [e]
  have h1 : x ^^^ 2 ^ 63 < 2 ^ 64 := Nat.xor_lt_two_pow hx (by decide)
  have h2 : (x ^^^ 2 ^ 63) % 2 ^ 63 = x % 2 ^ 63 := by
    rw [Nat.xor_mod_two_pow]; simp
  have h3 : (x ^^^ 2 ^ 63) / 2 ^ 63 = 1 - x / 2 ^ 63 := by
    rw [← Nat.shiftRight_eq_div_pow, ← Nat.shiftRight_eq_div_pow, Nat.shiftRight_xor_distrib, Nat.shiftRight_eq_div_pow, Nat.shiftRight_eq_div_pow]
    have : x / 2 ^ 63 < 2 := by rw [Nat.div_lt_iff_lt_mul (by decide)]; exact hx
    have : x / 2 ^ 63 = 0 ∨ x / 2 ^ 63 = 1 := by omega
    rcases this with h | h <;> rw [h] <;> decide
  exact ⟨h1, h2, h3⟩

theorem neg_run (x : Nat) (w : World) : (Go.Op.unary .neg (.float .f64 x)).run Try.prog w = .ok (.float .f64 (Go.Op.negFloat .f64 x)) w := rfl

set_option maxHeartbeats 2000000 in
theorem oddsNearest_any (x : Nat) (whole : Int) (hx : x < 18446744073709551616) (w : World) :
    Calls Try.prog 11 #[.float .f64 x, .int .i64 whole] w fun e w' => e = .returned (.bool true) ∧ Below w.heap.size w w' := by
  obtain ⟨m, hm⟩ : ∃ m, whole.tmod 4503599627370496 = m := ⟨_, rfl⟩
  have hmb : m.natAbs < 4503599627370496 := by
    rw [← hm, Int.natAbs_tmod]
    exact Nat.mod_lt _ (by decide)
  obtain ⟨f1, f2, f3⟩ := intW_fin (n := m) (by omega)
  obtain ⟨r, hr, _⟩ := add_fin (intW m) half f1 half_pos.fin
  have hh := Ieee.Format.add_lt Ieee.double hr
  generalize Ieee.double.word (sumNeg (intW m) half) r = h at hr hh
  have hadd := add_run hr
  have hw1 : IntKind.i64.wrap m = m := by rw [IntKind.wrap_i64]; omega
  have hcm := conv_real m
  have hcw := conv_real whole
  unfold half at hadd
  have hng := neg_run x
  have HH := hid hh
  have HX := hid hx
  have HL := hid (intW_lt whole)
  generalize intW m = f at hcm hadd
  generalize intW whole = g at hcw HL
  clear hmb f1 f2 f3 hr hh hx
  go_enter Try.func11, Try.ntmps11
  go_wp2_with fail
  refine (after_any _ _ HH.out _).mono ?_
  rintro e w1 ⟨z1, hz, rfl, hw⟩
  obtain rfl := hw
  have HZ1 := hid hz
  clear hz
  go_wp2_with fail
  refine (after_any _ _ HH.out _).mono ?_
  rintro e w1 ⟨z2, hz, rfl, hw⟩
  obtain rfl := hw
  have HZ2 := hid hz
  clear hz
  go_wp2_with fail
  obtain ⟨ng, hnge⟩ : ∃ g, Go.Op.negFloat .f64 x = g := ⟨_, rfl⟩
  have hngl : ng < 18446744073709551616 := by rw [← hnge]; exact (negF x HX.out).1
  rw [hnge]
  clear hnge
  obtain ⟨ys, hys⟩ : ∃ ys : List Nat, ys = [x, h, z1, z2, g, ng] := ⟨_, rfl⟩
  have hbd : ∀ k, k < 6 → at0 ys k < 18446744073709551616 := by
    have a1 := HX.out
    have a2 := HH.out
    have a3 := HZ1.out
    have a4 := HZ2.out
    have a5 := HL.out
    intro k hk
    rw [hys]
    rcases (show k = 0 ∨ k = 1 ∨ k = 2 ∨ k = 3 ∨ k = 4 ∨ k = 5 by omega) with rfl | rfl | rfl | rfl | rfl | rfl <;> assumption
  have hown : (w.alloc (.cells #[.float .f64 x, .float .f64 h, .float .f64 z1, .float .f64 z2, .float .f64 g, .float .f64 ng] 22)).ownsRow w.heap.size 22 1 (.slice (some ⟨w.heap.size, 0, none⟩) 6 6) 6 (Fb ys) :=
    own_of_cells (heap_alloc_new w _) (Nat.le_refl _) (Nat.le_refl _) (by unfold maxLen; omega) rfl (by rw [hys]; rfl)
  have hB0 := (Below.refl w.heap.size w).alloc (Nat.le_refl _) (.cells #[.float .f64 x, .float .f64 h, .float .f64 z1, .float .f64 z2, .float .f64 g, .float .f64 ng] 22)
  have hyl : ys.length = 6 := by rw [hys]; rfl
  have HO := hid (Sl_of_own hown)
  have HB0 := hid hB0
  have HBD := hid hbd
  have HYL := hid hyl
  have hsz : w.heap.size < (w.alloc (.cells #[.float .f64 x, .float .f64 h, .float .f64 z1, .float .f64 z2, .float .f64 g, .float .f64 ng] 22)).heap.size := by simp
  have HSZ := hid hsz
  clear hown hB0 hbd hyl hsz hng hys
  generalize w.alloc (.cells #[.float .f64 x, .float .f64 h, .float .f64 z1, .float .f64 z2, .float .f64 g, .float .f64 ng] 22) = wa at *
  go_loopw [28] (fun i wr => ∃ k : Nat, k ≤ 6 ∧ i = .int .i64 k ∧ Below wa.heap.size wa wr) (fun i _ => 6 - (intOf i).toNat)
  case atStart => exact ⟨0, by omega, rfl, Below.refl _ _⟩
  case round =>
    obtain ⟨k, hk, rfl, hb⟩ := hrel
    have HB := hid hb
    clear hb
    by_cases hlt : k < 6
    · have hlt' : (k : Int) < 6 := by omega
      obtain ⟨b1, o1, e1, _, q1⟩ := Sl_cellF (k := k) (Sl_below HO.out HB.out (Nat.le_refl _)) (by rw [HYL.out]; exact hlt)
      cases e1
      rw [Nat.zero_add] at q1
      have hyk := HBD.out k hlt
      generalize at0 ys k = y at q1 hyk
      have HY := hid hyk
      clear hyk
      go_wp2_with fail
      refine (nearest_any y HY.out _).mono ?_
      rintro e w2 ⟨rfl, hb⟩
      have HB2 := hid (HB.out.trans (hb.mono HB.out.size))
      clear hb
      go_wp2_with fail
      refine (refNearest_any y HY.out _).mono ?_
      rintro e w3 ⟨rfl, hw⟩
      obtain rfl := hw
      generalize nv y = v1
      generalize FloatPlain.ne y = v2
      go_wp2_with fail
      go_roundw
      case rel => exact ⟨k + 1, by omega, by go_num, HB2.out⟩
      case measure => simp [intOf]; omega
    · obtain rfl : k = 6 := by omega
      go_wp2_with fail
      refine (awake_any _).mono ?_
      rintro e w3 ⟨rfl, hb⟩
      have HB3 := hid (HB.out.trans (hb.mono HB.out.size))
      clear hb
      go_wp2_with fail
      go_ret
      exact ⟨rfl, HB0.out.trans (HB3.out.mono (Nat.le_of_lt HSZ.out))⟩
end Go.Proofs.Ytkabnaemchgeeaa
