/- Nearest: the document's. -/
import Derived.Test.YtkabnaemchgeeaaNearest
namespace Go.Proofs.Ytkabnaemchgeeaa
open Go.RowKit FloatPlain

set_option maxHeartbeats 1000000 in
theorem refNearest_any (x : Nat) (hx : x < 18446744073709551616) (w : World) : Calls Try.prog 27 #[.float .f64 x] w fun e w' => e = .returned (.tuple #[.int .i64 (nv x), .int .i64 (ne x)]) ∧ w = w' := by
  obtain ⟨g1, hg1⟩ : ∃ b, (FloatKind.f64.format.order x 14114281232179134464 == some .gt || FloatKind.f64.format.order x 14114281232179134464 == some .eq) = b := ⟨_, rfl⟩
  obtain ⟨g2, hg2⟩ : ∃ b, (FloatKind.f64.format.order x 4890909195324358656 == some .lt) = b := ⟨_, rfl⟩
  obtain ⟨t1, t2, t3, t4⟩ := two_num 63 (by omega)
  rw [← hi63, p63] at t1
  rw [← hi63] at t2
  rw [← lo63] at t3 t4
  rw [p63] at t3
  have ht : told x = (g1 && g2) := by
    subst hg1 hg2
    show told x = ((Ieee.double.order x 14114281232179134464 == some .gt || Ieee.double.order x 14114281232179134464 == some .eq) && (Ieee.double.order x 4890909195324358656 == some .lt))
    rcases three x hx with f | f | f
    · rw [told_fin f, cmp_gt f t4, cmp_eq f t4, cmp_lt f t2, t1, t3]
      rw [Bool.eq_iff_iff]
      simp only [Bool.and_eq_true, Bool.or_eq_true, decide_eq_true_eq]
      omega
    · rw [order_inf x _ f t4, order_inf x _ f t2]
      have : told x = false := by
        unfold told
        have := f.1
        simp
        omega
      rw [this]
      cases FloatPlain.neg x <;> rfl
    · rw [order_nan x _ f, order_nan x _ f]
      have : told x = false := by
        unfold told
        have := f.1
        simp
        omega
      rw [this]; rfl
  have HT := hid ht
  clear t1 t2 t3 t4 ht
  cases g1
  · go_enter Try.func27, Try.ntmps27
    go_wp2_with fail
    go_ret2
    refine ⟨?_, rfl⟩
    unfold nv ne
    rw [HT.out]; rfl
  · cases g2
    · go_enter Try.func27, Try.ntmps27
      go_wp2_with fail
      go_ret2
      refine ⟨?_, rfl⟩
      unfold nv ne
      rw [HT.out]; rfl
    · have htold : told x = true := HT.out
      have f : FloatPlain.Fin x := ⟨by unfold told at htold; simp at htold; exact htold.1.1, hx⟩
      obtain ⟨nb1, nb2⟩ := near_bound htold
      have hnv : nv x = near x := by unfold nv; rw [htold]; rfl
      have hne : FloatPlain.ne x = 0 := by unfold FloatPlain.ne; rw [htold]; rfl
      have HNV := hid hnv
      have HNE := hid hne
      obtain ⟨c1, hc1⟩ : ∃ b, (FloatKind.f64.format.order x 4841369599423283200 == some .gt || FloatKind.f64.format.order x 4841369599423283200 == some .eq) = b := ⟨_, rfl⟩
      obtain ⟨c2, hc2⟩ : ∃ b, (FloatKind.f64.format.order x 14064741636278059008 == some .lt || FloatKind.f64.format.order x 14064741636278059008 == some .eq) = b := ⟨_, rfl⟩
      obtain ⟨t1, t2, t3, t4⟩ := two_num 52 (by omega)
      rw [← hi52, p52] at t1
      rw [← hi52] at t2
      rw [← lo52] at t3 t4
      rw [p52] at t3
      have hgr : decide (4503599627370496 * wide ≤ mag x) = (c1 || c2) := by
        subst hc1 hc2
        show _ = ((Ieee.double.order x 4841369599423283200 == some .gt || Ieee.double.order x 4841369599423283200 == some .eq) || (Ieee.double.order x 14064741636278059008 == some .lt || Ieee.double.order x 14064741636278059008 == some .eq))
        rw [cmp_gt f t2, cmp_eq f t2, cmp_lt f t4, cmp_eq f t4, t1, t3, Bool.eq_iff_iff]
        simp only [Bool.or_eq_true, decide_eq_true_eq]
        rw [mag_great f]
        omega
      have HG := hid hgr
      have HF := hid f
      clear t1 t2 t3 t4 hgr HT htold hnv hne f
      by_cases hc : (c1 || c2) = true
      · have hcv := cv_int (near_great HF.out (by have := HG.out; rw [hc] at this; simpa using this)) nb1 nb2
        cases c1
        · obtain rfl : c2 = true := by simpa using hc
          go_enter Try.func27, Try.ntmps27
          go_wp2_with fail
          go_ret2
          refine ⟨?_, rfl⟩
          rw [HNV.out, HNE.out]; rfl
        · go_enter Try.func27, Try.ntmps27
          go_wp2_with fail
          go_ret2
          refine ⟨?_, rfl⟩
          rw [HNV.out, HNE.out]; rfl
      · obtain ⟨rfl, rfl⟩ : c1 = false ∧ c2 = false := by simpa using hc
        have hs : mag x < 4503599627370496 * wide := by
          have := HG.out
          simp at this
          exact this
        obtain ⟨T, hT⟩ : ∃ T, truncW x = T := ⟨_, rfl⟩
        obtain ⟨N, hN⟩ : ∃ N, floorW x = N := ⟨_, rfl⟩
        have hTb := trunc_bound hs
        have hcv := cv_int (y := x) (n := T) (by rw [trunc_fin HF.out, ← hT]; unfold truncW; rfl) (by omega) (by omega)
        have hTf := intW_fin (n := T) (by omega)
        have hfl := floor_is x
        have hlaw := ref_law HF.out hs
        rw [hT] at hfl hTb
        rw [hN] at hfl hlaw
        obtain ⟨l1, l2, l3, l4, l5⟩ := hlaw
        have hlt : (FloatKind.f64.format.order x (intW T) == some .lt) = decide (num x < T * wide) := by
          show (Ieee.double.order x (intW T) == some .lt) = _
          rw [cmp_lt HF.out hTf.1, hTf.2.1]
        have hfT : floatOfInt .f64 T = intW T := rfl
        have hfN : floatOfInt .f64 N = intW N := rfl
        obtain ⟨R, hR⟩ : ∃ R, fsub x (intW N) = R := ⟨_, rfl⟩
        rw [hR] at l2 l3 l4 l5
        have hop : ∀ t w, (binOp .sub t (.float .f64 x) (.float .f64 (intW N))).run Try.prog w = .ok (.float .f64 R) w := fun t w => run_float_arith w .sub t .f64 x _ R l2
        have hgt : (FloatKind.f64.format.order R 4602678819172646912 == some .gt) = decide (num half < num R) := by
          show (Ieee.double.order R half == some .gt) = _
          rw [cmp_gt l3 half_pos.fin]
        have heq : (FloatKind.f64.format.order R 4602678819172646912 == some .eq) = decide (num R = num half) := by
          show (Ieee.double.order R half == some .eq) = _
          rw [cmp_eq l3 half_pos.fin]
        obtain ⟨fT, hfTe⟩ : ∃ f, intW T = f := ⟨_, rfl⟩
        obtain ⟨fN, hfNe⟩ : ∃ f, intW N = f := ⟨_, rfl⟩
        rw [hfTe] at hlt hfT
        rw [hfNe] at hop hfN
        have hci : ∀ w, (convert 2 22 (.int .i64 T)).run Try.prog w = .ok (.float .f64 fT) w := fun w => by
          rw [← hfT]; exact run_convert_int_float w 2 22 .i64 .f64 T (by rw [Try.underlying2]; rfl) Try.underlying22
        have hcj : ∀ w, (convert 2 22 (.int .i64 N)).run Try.prog w = .ok (.float .f64 fN) w := fun w => by
          rw [← hfN]; exact run_convert_int_float w 2 22 .i64 .f64 N (by rw [Try.underlying2]; rfl) Try.underlying22
        clear hfT hfN
        obtain ⟨bl, hbl⟩ : ∃ b, decide (num x < T * wide) = b := ⟨_, rfl⟩
        obtain ⟨bg, hbg⟩ : ∃ b, decide (num half < num R) = b := ⟨_, rfl⟩
        obtain ⟨be, hbe⟩ : ∃ b, decide (num R = num half) = b := ⟨_, rfl⟩
        rw [hbl] at hlt
        rw [hbg] at hgt
        rw [hbe] at heq
        have hN2 : N = if bl = true then T - 1 else T := by
          rw [hfl, ← hbl]
          by_cases h9 : num x < T * wide
          · rw [if_pos h9, if_pos (by simpa using h9)]
          · rw [if_neg h9, if_neg (by simpa using h9)]
        have hodd : decide (N % 2 ≠ 0) = (N.tmod 2 != 0) := by
          rw [Bool.eq_iff_iff]
          simp only [decide_eq_true_eq, bne_iff_ne]
          rcases Int.lt_or_le N 0 with h9 | h9
          · have : N.tmod 2 = -((-N) % 2) := by
              rw [← Int.tmod_eq_emod_of_nonneg (by omega), Int.neg_tmod, Int.neg_neg]
            rw [this]; omega
          · rw [Int.tmod_eq_emod_of_nonneg h9]
        have hans : near x = if bg || be && (N.tmod 2 != 0) then N + 1 else N := by
          rw [← hodd]
          by_cases h9 : (num half < num R) ∨ (num R = num half ∧ N % 2 ≠ 0)
          · rw [l4 h9, if_pos]
            rw [← hbg, ← hbe]
            simpa using h9
          · rw [l5 h9, if_neg]
            rw [← hbg, ← hbe]
            simpa using h9
        have HA := hid hans
        have HN2 := hid hN2
        have HfT := hid hfTe
        have HfN := hid hfNe
        clear HG hbl hbg hbe hodd hans hfl l1 l2 l3 l4 l5 hTf hs hN hT hR hfTe hfNe
        obtain ⟨bo, hbo⟩ : ∃ b, (N.tmod 2 != 0) = b := ⟨_, rfl⟩
        have HBO := hid hbo
        have hw1 : IntKind.i64.wrap (T - 1) = T - 1 := by rw [IntKind.wrap_i64]; omega
        have hNb : -4503599627370498 < N ∧ N < 4503599627370498 := by
          rw [hN2]; split <;> omega
        have hw2 : IntKind.i64.wrap (N + 1) = N + 1 := by rw [IntKind.wrap_i64]; omega
        cases bl
        · obtain rfl : N = T := by simpa using hN2
          obtain rfl : fT = fN := HfT.out.symm.trans HfN.out
          clear hN2 HfT HfN HN2 hcj
          cases bg <;> cases be <;> cases bo
          all_goals
            go_enter Try.func27, Try.ntmps27
            go_wp2_with fail
            go_ret2
            refine ⟨?_, rfl⟩
            rw [HNV.out, HNE.out, HA.out, HBO.out]
            rfl
        · obtain rfl : N = T - 1 := by simpa using hN2
          clear hN2 HfT HfN HN2
          cases bg <;> cases be <;> cases bo
          all_goals
            go_enter Try.func27, Try.ntmps27
            go_wp2_with fail
            go_ret2
            refine ⟨?_, rfl⟩
            rw [HNV.out, HNE.out, HA.out, HBO.out]
            first
              | rfl
              | (rw [Int.sub_add_cancel]; rfl)
end Go.Proofs.Ytkabnaemchgeeaa
