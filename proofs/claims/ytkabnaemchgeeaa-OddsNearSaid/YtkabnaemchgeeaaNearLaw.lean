/- The law OddsNear. -/
import Derived.Test.YtkabnaemchgeeaaNearLaws
import Derived.Test.YtkabnaemchgeeaaFarPlain
namespace Go.Proofs.Ytkabnaemchgeeaa
open Go.RowKit FloatPlain

theorem mhalf_num : num 13826050856027422720 = -(H : Int) ∧ FloatPlain.Fin 13826050856027422720 := by
  obtain ⟨a, b, c⟩ := word_neg true half half_pos
  have d := word_num true half half_pos
  rw [word_true] at a b c d
  have e : (13826050856027422720 : Nat) = 9223372036854775808 + half := by decide
  rw [e]
  exact ⟨by rw [d, if_pos rfl, val_half], c⟩

set_option maxRecDepth 4000 in
set_option maxHeartbeats 4000000 in
theorem oddsNear_any (x : Nat) (hx : x < 18446744073709551616) (w : World) :
    Calls Try.prog 6 #[.float .f64 x] w fun e w' => e = .returned (.bool true) ∧ Below w.heap.size w w' := by
  obtain ⟨g1, hg1⟩ : ∃ b, (FloatKind.f64.format.order x 14064741636278059008 == some .gt) = b := ⟨_, rfl⟩
  obtain ⟨g2, hg2⟩ : ∃ b, (FloatKind.f64.format.order x 4841369599423283200 == some .lt) = b := ⟨_, rfl⟩
  have HX := hid hx
  by_cases hg : (g1 && g2) = true
  · obtain ⟨rfl, rfl⟩ : g1 = true ∧ g2 = true := by simpa using hg
    -- a float below 2^52 in size
    obtain ⟨t1, t2, t3, t4⟩ := two_num 52 (by omega)
    rw [← hi52, p52] at t1
    rw [← hi52] at t2
    rw [← lo52] at t3 t4
    rw [p52] at t3
    have f : FloatPlain.Fin x := by
      rcases three x hx with f | f | f
      · exact f
      · exfalso
        have e1 : (Ieee.double.order x 14064741636278059008 == some .gt) = true := hg1
        have e2 : (Ieee.double.order x 4841369599423283200 == some .lt) = true := hg2
        rw [order_inf x _ f t4] at e1
        rw [order_inf x _ f t2] at e2
        cases hn : FloatPlain.neg x <;> rw [hn] at e1 e2
        · cases e2
        · cases e1
      · exfalso
        have e1 : (Ieee.double.order x 14064741636278059008 == some .gt) = true := hg1
        rw [order_nan x _ f] at e1
        cases e1
    have hlo : -(4503599627370496 * (wide : Int)) < num x := by
      have e1 : (Ieee.double.order x 14064741636278059008 == some .gt) = true := hg1
      rw [cmp_gt f t4, t3] at e1
      simpa using e1
    have hhi : num x < 4503599627370496 * (wide : Int) := by
      have e2 : (Ieee.double.order x 4841369599423283200 == some .lt) = true := hg2
      rw [cmp_lt f t2, t1] at e2
      simpa using e2
    have hs : mag x < 4503599627370496 * wide := by
      have := mag_great f
      omega
    have hb := near_small hs
    have htold : told x = true := by
      unfold told
      have := f.1
      simp only [Bool.and_eq_true, decide_eq_true_eq]
      omega
    have hnv : nv x = near x ∧ FloatPlain.ne x = 0 := by unfold nv FloatPlain.ne; rw [htold]; exact ⟨rfl, rfl⟩
    obtain ⟨n1, n2, n3⟩ := negF x hx
    have htu := turned hx n2 n3 htold hb
    have hwh := whole_told hb
    obtain ⟨F, s1, s2, s3, s4, s5⟩ := far_law f hs
    have hsub := sub_run s1
    have hng := neg_run x
    have hcv := conv_real (near x)
    have hil := intW_lt (near x)
    obtain ⟨N, hN⟩ : ∃ N, near x = N := ⟨_, rfl⟩
    rw [hN] at hb hnv htu hwh s5 hsub hcv hil
    generalize intW N = g at hwh hsub hcv hil
    generalize Go.Op.negFloat .f64 x = y at n1 htu hng
    obtain ⟨m1, m2⟩ := mhalf_num
    obtain ⟨b1, hb1⟩ : ∃ b, (FloatKind.f64.format.order F 4602678819172646912 != some .eq) = b := ⟨_, rfl⟩
    obtain ⟨b2, hb2⟩ : ∃ b, (FloatKind.f64.format.order F 13826050856027422720 != some .eq) = b := ⟨_, rfl⟩
    have c1 : (FloatKind.f64.format.order F 4602678819172646912 == some .lt || FloatKind.f64.format.order F 4602678819172646912 == some .eq) = true := by
      show (Ieee.double.order F half == some .lt || Ieee.double.order F half == some .eq) = true
      rw [cmp_lt s2 half_pos.fin, cmp_eq s2 half_pos.fin, half_pos.num, val_half]
      simp only [Bool.or_eq_true, decide_eq_true_eq]
      omega
    have c2 : (FloatKind.f64.format.order F 13826050856027422720 == some .gt || FloatKind.f64.format.order F 13826050856027422720 == some .eq) = true := by
      show (Ieee.double.order F 13826050856027422720 == some .gt || Ieee.double.order F 13826050856027422720 == some .eq) = true
      rw [cmp_gt s2 m2, cmp_eq s2 m2, m1]
      simp only [Bool.or_eq_true, decide_eq_true_eq]
      omega
    have heven : (b1 && b2) = false → N % 2 = 0 := by
      intro h9
      apply s5
      have d1 : b1 = !decide (num F = (H : Int)) := by
        rw [← hb1]
        show (!(Ieee.double.order F half == some .eq)) = _
        rw [cmp_eq s2 half_pos.fin, half_pos.num, val_half]
      have d2 : b2 = !decide (num F = -(H : Int)) := by
        rw [← hb2]
        show (!(Ieee.double.order F 13826050856027422720 == some .eq)) = _
        rw [cmp_eq s2 m2, m1]
      rw [d1, d2] at h9
      simp only [Bool.and_eq_false_iff, Bool.not_eq_false', decide_eq_true_eq] at h9
      exact h9
    have hmod : (b1 && b2) = false → N.tmod 2 = 0 := by
      intro h9
      have := heven h9
      rcases Int.lt_or_le N 0 with h8 | h8
      · have e : N.tmod 2 = -((-N) % 2) := by
          rw [← Int.tmod_eq_emod_of_nonneg (by omega), Int.neg_tmod, Int.neg_neg]
        rw [e]; omega
      · rw [Int.tmod_eq_emod_of_nonneg h8]; exact this
    have hw1 : IntKind.i64.wrap (-N) = -N := by rw [IntKind.wrap_i64]; omega
    have hw2 : IntKind.i64.wrap (0 - N) = -N := by rw [IntKind.wrap_i64]; omega
    have HY := hid n1
    have HG := hid hil
    have HNV := hid hnv
    have HTU := hid htu
    have HWH := hid hwh
    clear t1 t2 t3 t4 f hlo hhi hs hb htold hnv n1 n2 n3 htu hwh s1 s2 s3 s4 s5 hil hN m1 m2 heven hg hx
    cases b1
    · have hm2 := hmod rfl
      clear hmod
      cases b2
      all_goals
        go_enter Try.func6, Try.ntmps6
        go_wp2_with fail
        refine (nearest_any x HX.out _).mono ?_
        rintro e w1 ⟨rfl, hb⟩
        rw [HNV.out.1, HNV.out.2]
        have HB1 := hid hb
        clear hb
        go_wp2_with fail
        refine (nearest_any _ HY.out _).mono ?_
        rintro e w2 ⟨rfl, hb⟩
        rw [HTU.out.1, HTU.out.2]
        have HB2 := hid (HB1.out.trans (hb.mono HB1.out.size))
        clear hb
        go_wp2_with fail
        refine (nearest_any _ HG.out _).mono ?_
        rintro e w3 ⟨rfl, hb⟩
        rw [HWH.out.1, HWH.out.2]
        have HB3 := hid (HB2.out.trans (hb.mono HB2.out.size))
        clear hb
        go_wp2_with fail
        refine (awake_any _).mono ?_
        rintro e w4 ⟨rfl, hb⟩
        have HB4 := hid (HB3.out.trans (hb.mono HB3.out.size))
        clear hb
        go_wp2_with fail
        go_ret
        exact ⟨rfl, HB4.out⟩
    · cases b2
      · have hm2 := hmod rfl
        clear hmod
        go_enter Try.func6, Try.ntmps6
        go_wp2_with fail
        refine (nearest_any x HX.out _).mono ?_
        rintro e w1 ⟨rfl, hb⟩
        rw [HNV.out.1, HNV.out.2]
        have HB1 := hid hb
        clear hb
        go_wp2_with fail
        refine (nearest_any _ HY.out _).mono ?_
        rintro e w2 ⟨rfl, hb⟩
        rw [HTU.out.1, HTU.out.2]
        have HB2 := hid (HB1.out.trans (hb.mono HB1.out.size))
        clear hb
        go_wp2_with fail
        refine (nearest_any _ HG.out _).mono ?_
        rintro e w3 ⟨rfl, hb⟩
        rw [HWH.out.1, HWH.out.2]
        have HB3 := hid (HB2.out.trans (hb.mono HB2.out.size))
        clear hb
        go_wp2_with fail
        refine (awake_any _).mono ?_
        rintro e w4 ⟨rfl, hb⟩
        have HB4 := hid (HB3.out.trans (hb.mono HB3.out.size))
        clear hb
        go_wp2_with fail
        go_ret
        exact ⟨rfl, HB4.out⟩
      · clear hmod
        go_enter Try.func6, Try.ntmps6
        go_wp2_with fail
        refine (nearest_any x HX.out _).mono ?_
        rintro e w1 ⟨rfl, hb⟩
        rw [HNV.out.1, HNV.out.2]
        have HB1 := hid hb
        clear hb
        go_wp2_with fail
        refine (nearest_any _ HY.out _).mono ?_
        rintro e w2 ⟨rfl, hb⟩
        rw [HTU.out.1, HTU.out.2]
        have HB2 := hid (HB1.out.trans (hb.mono HB1.out.size))
        clear hb
        go_wp2_with fail
        refine (nearest_any _ HG.out _).mono ?_
        rintro e w3 ⟨rfl, hb⟩
        rw [HWH.out.1, HWH.out.2]
        have HB3 := hid (HB2.out.trans (hb.mono HB2.out.size))
        clear hb
        go_wp2_with fail
        refine (awake_any _).mono ?_
        rintro e w4 ⟨rfl, hb⟩
        have HB4 := hid (HB3.out.trans (hb.mono HB3.out.size))
        clear hb
        go_wp2_with fail
        go_ret
        exact ⟨rfl, HB4.out⟩
  · have hv : ∃ v e : Int, (nv x = v ∧ FloatPlain.ne x = e) ∧ (e = 0 ∨ (e = 250 ∧ v = 0)) := by
      refine ⟨nv x, FloatPlain.ne x, ⟨rfl, rfl⟩, ?_⟩
      unfold nv FloatPlain.ne
      cases told x
      · exact Or.inr ⟨rfl, rfl⟩
      · exact Or.inl rfl
    obtain ⟨v, e0, hv1, hv2⟩ := hv
    have HNV := hid hv1
    clear hv1 hx
    rcases hv2 with rfl | ⟨rfl, rfl⟩
    all_goals
      cases g1
      · clear hg
        go_enter Try.func6, Try.ntmps6
        go_wp2_with fail
        refine (nearest_any x HX.out _).mono ?_
        rintro e w1 ⟨rfl, hb⟩
        rw [HNV.out.1, HNV.out.2]
        have HB1 := hid hb
        clear hb
        go_wp2_with fail
        refine (awake_any _).mono ?_
        rintro e w4 ⟨rfl, hb⟩
        have HB4 := hid (HB1.out.trans (hb.mono HB1.out.size))
        clear hb
        go_wp2_with fail
        go_ret
        exact ⟨rfl, HB4.out⟩
      · obtain rfl : g2 = false := by simpa using hg
        clear hg
        go_enter Try.func6, Try.ntmps6
        go_wp2_with fail
        refine (nearest_any x HX.out _).mono ?_
        rintro e w1 ⟨rfl, hb⟩
        rw [HNV.out.1, HNV.out.2]
        have HB1 := hid hb
        clear hb
        go_wp2_with fail
        refine (awake_any _).mono ?_
        rintro e w4 ⟨rfl, hb⟩
        have HB4 := hid (HB1.out.trans (hb.mono HB1.out.size))
        clear hb
        go_wp2_with fail
        go_ret
        exact ⟨rfl, HB4.out⟩
end Go.Proofs.Ytkabnaemchgeeaa
