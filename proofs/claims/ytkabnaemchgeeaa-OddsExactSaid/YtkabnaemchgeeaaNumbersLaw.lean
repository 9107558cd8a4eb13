/- The law OddsNumbers. -/
import Derived.Test.YtkabnaemchgeeaaLimitLaw
import Derived.Test.YtkabnaemchgeeaaNextafter
import Derived.Test.YtkabnaemchgeeaaOnePlain
namespace Go.Proofs.Ytkabnaemchgeeaa
open Go.RowKit FloatPlain

theorem inf_any (w : World) : Calls Try.prog 25 #[.int .i64 1] w fun e w' => e = .returned (.float .f64 9218868437227405312) ∧ w = w' := by
  have h := real_bits
  go_enter Try.func25, Try.ntmps25
  go_wp2_with fail
  go_ret
  exact ⟨rfl, rfl⟩

theorem limit_zero : limGo 0 0 ((1024 : Nat) : Int) (most 1024 - 1024) 1024 = 4096 := by
  have hm : most 1024 = 4096 := by decide
  rw [hm]
  obtain ⟨_, _, _, h⟩ := limGo_law 0 0 ((1024 : Nat) : Int) (4096 - 1024) 1024
  have ho : ∀ m, over 0 0 ((1024 : Nat) : Int) m = false := by
    intro m
    unfold over
    rw [bsum_zero m _ (by omega) _ (Nat.le_refl _), cmp_gt zero_pos.fin zero_pos.fin, decide_eq_false_iff_not]
    omega
  rcases h with h | h
  · rw [h]
  · rw [ho] at h; cases h

set_option maxRecDepth 8000 in
set_option maxHeartbeats 4000000 in
theorem oddsNumbers_any (w : World) : Calls Try.prog 10 #[] w fun e w' => e = .returned (.bool true) ∧ Below w.heap.size w w' := by
  go_enter Try.func10, Try.ntmps10
  go_wp2_with fail
  have hcall := shows_any 4096 one w (by omega) (by kernel_rfl) (v7.trans (by rw [s1])) (fun m _ => okay_one m)
  rw [show (one : Nat) = 4607182418800017408 from rfl, show ((4096 : Nat) : Int) = 4096 from rfl] at hcall
  refine hcall.mono ?_
  clear hcall
  rintro e w1 ⟨v, rfl, ho, hb⟩
  obtain ⟨g, c, rfl, hc, _⟩ := own_some ho (by omega)
  have HB1 := hid hb
  have HS1 := hid (Sl_of_own ho)
  clear hb ho
  go_wp2_with fail
  refine (shows_bad 4097 _ _ (by omega)).mono ?_
  rintro e w5 ⟨rfl, hw⟩
  obtain rfl := hw
  go_wp2_with fail
  refine (shows_bad (-1) _ _ (by omega)).mono ?_
  rintro e w5 ⟨rfl, hw⟩
  obtain rfl := hw
  go_wp2_with fail
  refine (nan_any _).mono ?_
  rintro e w5 ⟨rfl, hw⟩
  obtain rfl := hw
  go_wp2_with fail
  refine (shows_unlikely 1 _ _ (by omega) (by omega) (by kernel_rfl)).mono ?_
  rintro e w5 ⟨rfl, hw⟩
  obtain rfl := hw
  go_wp2_with fail
  refine (above_bad 4097 1 _ _ (by omega)).mono ?_
  rintro e w5 ⟨rfl, hw⟩
  obtain rfl := hw
  go_wp2_with fail
  refine (above_unlikely 1 0 _ _ (by omega) (by omega) (by kernel_rfl)).mono ?_
  rintro e w5 ⟨rfl, hw⟩
  obtain rfl := hw
  go_wp2_with fail
  have hcall := limit_any 1024 0 0 w1 (by omega) (by kernel_rfl) (by kernel_rfl) (v8.trans (by rw [s0])) (fun m _ => okay_zero m) (fun m _ => sumOkay_zero m _ (by omega))
  rw [limit_zero, show ((1024 : Nat) : Int) = 1024 from rfl, show ((4096 : Nat) : Int) = 4096 from rfl] at hcall
  refine hcall.mono ?_
  clear hcall
  rintro e w2 ⟨rfl, hb⟩
  have HB2 := hid (HB1.out.trans (hb.mono HB1.out.size))
  have HS2 := hid (Sl_below HS1.out hb (Nat.le_refl _))
  clear hb
  go_wp2_with fail
  refine (limit_bad 1025 _ _ _ (by omega)).mono ?_
  rintro e w5 ⟨rfl, hw⟩
  obtain rfl := hw
  go_wp2_with fail
  refine (limit_unlikely 1 _ _ _ (by omega) (by omega) (by kernel_rfl)).mono ?_
  rintro e w5 ⟨rfl, hw⟩
  obtain rfl := hw
  go_wp2_with fail
  refine (inf_any _).mono ?_
  rintro e w5 ⟨rfl, hw⟩
  obtain rfl := hw
  go_wp2_with fail
  refine (nearest_any _ (by omega) _).mono ?_
  rintro e w3 ⟨rfl, hb⟩
  rw [show nv 9218868437227405312 = 0 by kernel_rfl, show FloatPlain.ne 9218868437227405312 = 250 by kernel_rfl]
  have HB3 := hid (HB2.out.trans (hb.mono HB2.out.size))
  have HS3 := hid (Sl_below HS2.out hb (Nat.le_refl _))
  clear hb
  go_wp2_with fail
  refine (nearest_any _ (by omega) _).mono ?_
  rintro e w4 ⟨rfl, hb⟩
  rw [show nv 14114281232179134464 = -9223372036854775808 by kernel_rfl, show FloatPlain.ne 14114281232179134464 = 0 by kernel_rfl]
  have HB4 := hid (HB3.out.trans (hb.mono HB3.out.size))
  have HS4 := hid (Sl_below HS3.out hb (Nat.le_refl _))
  clear hb
  go_wp2_with fail
  refine (nearest_any _ (by omega) _).mono ?_
  rintro e w6 ⟨rfl, hb⟩
  rw [show nv 4890909195324358656 = 0 by kernel_rfl, show FloatPlain.ne 4890909195324358656 = 250 by kernel_rfl]
  have HB6 := hid (HB4.out.trans (hb.mono HB4.out.size))
  have hs6 := Sl_below HS4.out hb (Nat.le_refl _)
  clear hb
  obtain ⟨b1, o1, e1, _, q1⟩ := Sl_cellF (k := 4096) hs6 (by rw [rowN_len]; omega)
  cases e1
  rw [Nat.zero_add, show (4607182418800017408 : Nat) = one from rfl, row_one, if_pos rfl] at q1
  obtain ⟨b2, o2, e2, _, q2⟩ := Sl_cellF (k := 0) hs6 (by rw [rowN_len]; omega)
  cases e2
  rw [show (4607182418800017408 : Nat) = one from rfl, row_one, if_neg (by omega)] at q2
  have c1 : (FloatKind.f64.format.order one 4607182418800017408 == some .eq) = true := by kernel_rfl
  have c2 : (FloatKind.f64.format.order 0 0 == some .eq) = true := by kernel_rfl
  clear hs6
  generalize one = O at q1 c1
  go_wp2_with fail
  refine (awake_any _).mono ?_
  rintro e w7 ⟨rfl, hb⟩
  have HB7 := hid (HB6.out.trans (hb.mono HB6.out.size))
  clear hb
  go_wp2_with fail
  go_ret
  exact ⟨rfl, HB7.out⟩
end Go.Proofs.Ytkabnaemchgeeaa
