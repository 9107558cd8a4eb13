/- The law FaresTells. -/
import Derived.Test.YtnaogcpcaabbhaaKept
import Derived.Test.YtnaogcpcaabbhaaRefLimits
namespace Go.Proofs.Ytnaogcpcaabbhaa
open Go.RowKit FloatPlain

/-- what is told of fares and seats -/
theorem tells_all (fs : List (Nat × List Nat)) (s : Int) (hwf : Wf fs) : ∃ (V L : List Nat) (b : Nat) (e0 : Int), V.length ≤ 10000 ∧ L.length ≤ 10000 ∧
    (∀ v w, Fl w v fs → Calls Try.prog 12 #[v, .int .i64 s] w fun e w' => ∃ u, e = .returned (.tuple #[u, .int .i64 e0]) ∧ Sl w' u (Fb V) ∧ Below w.heap.size w w') ∧
    (∀ v w, Fl w v fs → Calls Try.prog 13 #[v, .int .i64 s] w fun e w' => ∃ u, e = .returned (.tuple #[u, .int .i64 e0]) ∧ Sl w' u (Ib L) ∧ Below w.heap.size w w') ∧
    (∀ v w, Fl w v fs → Calls Try.prog 14 #[v, .int .i64 s] w fun e w' => e = .returned (.tuple #[.float .f64 b, .int .i64 e0]) ∧ Below w.heap.size w w') ∧
    (∀ v w, Fl w v fs → Calls Try.prog 16 #[v, .int .i64 s] w fun e w' => ∃ u, e = .returned (.tuple #[u, .int .i64 e0]) ∧ Sl w' u (Fb V) ∧ Below w.heap.size w w') ∧
    (∀ v w, Fl w v fs → Calls Try.prog 17 #[v, .int .i64 s] w fun e w' => ∃ u, e = .returned (.tuple #[u, .int .i64 e0]) ∧ Sl w' u (Ib L) ∧ Below w.heap.size w w') ∧
    (∀ v w, Fl w v fs → Calls Try.prog 18 #[v, .int .i64 s] w fun e w' => e = .returned (.tuple #[.float .f64 b, .int .i64 e0]) ∧ Below w.heap.size w w') := by
  by_cases h : GoodF fs ∧ 0 ≤ s ∧ s ≤ 1024
  · obtain ⟨hg, h0, h1⟩ := h
    obtain ⟨n, rfl⟩ := Int.eq_ofNat_of_zero_le h0
    have hn : n ≤ 1024 := by omega
    refine ⟨val0 fs n fs.length, lims fs n, bidOf fs n, 0, by rw [val0_len]; omega, by rw [lims_len]; have := hg.2.1; omega, fun v w hv => ?_, fun v w hv => ?_, fun v w hv => ?_, fun v w hv => ?_, fun v w hv => ?_, fun v w hv => ?_⟩
    · exact (values_any v fs n w hv hwf hg hn).mono fun e w' ⟨u, a, b, c⟩ => ⟨u, a, Sl_of_own b, c⟩
    · exact (limits_any v fs n w hv hwf hg hn).mono fun e w' ⟨u, a, b, c⟩ => ⟨u, a, Sl_of_own b, c⟩
    · exact bid_any v fs n w hv hwf hg hn
    · exact (refValues_any v fs n w hv hwf hg hn).mono fun e w' ⟨u, a, b, c⟩ => ⟨u, a, Sl_of_own b, c⟩
    · exact (refLimits_any v fs n w hv hwf hg hn).mono fun e w' ⟨u, a, b, c⟩ => ⟨u, a, Sl_of_own b, c⟩
    · exact refBid_any v fs n w hv hwf hg hn
  · refine ⟨[], [], 0, err fs s, by simp, by simp, fun v w hv => ?_, fun v w hv => ?_, fun v w hv => ?_, fun v w hv => ?_, fun v w hv => ?_, fun v w hv => ?_⟩
    · exact (values_no v fs s w hv hwf h).mono fun e w' ⟨a, c⟩ => ⟨_, a, Sl_nil _, c⟩
    · exact (limits_no v fs s w hv hwf h).mono fun e w' ⟨a, c⟩ => ⟨_, a, Sl_nil _, c⟩
    · exact bid_no v fs s w hv hwf h
    · exact (refValues_no v fs s w hv hwf h).mono fun e w' ⟨a, c⟩ => ⟨_, a, Sl_nil _, c⟩
    · exact (refLimits_no v fs s w hv hwf h).mono fun e w' ⟨a, c⟩ => ⟨_, a, Sl_nil _, c⟩
    · exact refBid_no v fs s w hv hwf h

set_option maxRecDepth 8000 in
set_option maxHeartbeats 4000000 in
theorem faresTells_any (v : Value) (fs : List (Nat × List Nat)) (s : Int) (w : World) (hv : Fl w v fs) (hwf : Wf fs) (hl : fs.length * 32 ≤ 140737488351232) (hc8 : ∀ k, (csA fs k).length * 8 ≤ 140737488351232) :
    Calls Try.prog 3 #[v, .int .i64 s] w fun e w' => e = .returned (.bool true) ∧ Below w.heap.size w w' := by
  obtain ⟨V, L, b, e0, hV, hL, T1, T2, T3, T4, T5, T6⟩ := tells_all fs s hwf
  obtain ⟨C, hC⟩ : ∃ C, chk fs = C := ⟨_, rfl⟩
  have HCC := hid hC
  have HT1 := hid T1
  have HT2 := hid T2
  have HT3 := hid T3
  have HT4 := hid T4
  have HT5 := hid T5
  have HT6 := hid T6
  have HV := hid hv
  have HWF := hid hwf
  have HC8 := hid hc8
  have HL := hid hl
  clear T1 T2 T3 T4 T5 T6 hv hwf hl hc8 hC
  go_enter Try.func3, Try.ntmps3
  go_wp2_with fail
  refine (awake_any _).mono ?_
  rintro e w1 ⟨rfl, hb⟩
  have HB1 := hid hb
  clear hb
  go_wp2_with fail
  refine (lentFares_any _ fs _ (Fl_below HV.out HB1.out (Nat.le_refl _)) HL.out HC8.out).mono ?_
  rintro e w2 ⟨ps, rfl, hle, hb⟩
  obtain ⟨G, hG⟩ : ∃ G, w1.heap.size = G := ⟨_, rfl⟩
  rw [hG] at hle ⊢
  have HLE2 := hid hle
  have HF2 := hid (Lent_fl hle)
  have HB2 := hid (HB1.out.trans (hb.mono HB1.out.size))
  clear hb hle hG
  go_wp2_with fail
  refine (check_any _ fs _ HF2.out HWF.out).mono ?_
  rintro e w3 ⟨rfl, hb⟩
  rw [HCC.out]
  have HLE3 := hid (Lent_below HLE2.out hb (Nat.le_refl _))
  have HB3 := hid (HB2.out.trans (hb.mono HB2.out.size))
  clear hb
  go_wp2_with fail
  refine (HT1.out _ _ (Lent_fl HLE3.out)).mono ?_
  rintro e w4 ⟨u4, rfl, hs, hb⟩
  have HS4 := hid hs
  have HLE4 := hid (Lent_below HLE3.out hb (Nat.le_refl _))
  have HB4 := hid (HB3.out.trans (hb.mono HB3.out.size))
  clear hb hs
  go_wp2_with fail
  refine (HT2.out _ _ (Lent_fl HLE4.out)).mono ?_
  rintro e w5 ⟨u5, rfl, hs, hb⟩
  have HS5 := hid hs
  have HV5 := hid (Sl_below HS4.out hb (Nat.le_refl _))
  have HLE5 := hid (Lent_below HLE4.out hb (Nat.le_refl _))
  have HB5 := hid (HB4.out.trans (hb.mono HB4.out.size))
  clear hb hs
  go_wp2_with fail
  refine (HT3.out _ _ (Lent_fl HLE5.out)).mono ?_
  rintro e w6 ⟨rfl, hb⟩
  have HL6 := hid (Sl_below HS5.out hb (Nat.le_refl _))
  have HV6 := hid (Sl_below HV5.out hb (Nat.le_refl _))
  have HLE6 := hid (Lent_below HLE5.out hb (Nat.le_refl _))
  have HB6 := hid (HB5.out.trans (hb.mono HB5.out.size))
  clear hb
  go_wp2_with fail
  refine (keptFares_any G ps _ fs _ HLE6.out (Fl_below HV.out HB6.out (Nat.le_refl _)) HWF.out HL.out HC8.out).mono ?_
  rintro e w7 ⟨rfl, hb⟩
  have HL7 := hid (Sl_below HL6.out hb (Nat.le_refl _))
  have HV7 := hid (Sl_below HV6.out hb (Nat.le_refl _))
  have HB7 := hid (HB6.out.trans (hb.mono HB6.out.size))
  clear hb
  go_wp2_with fail
  refine (HT4.out _ _ (Fl_below HV.out HB7.out (Nat.le_refl _))).mono ?_
  rintro e w8 ⟨u8, rfl, hs, hb⟩
  have HS8 := hid hs
  have HL8 := hid (Sl_below HL7.out hb (Nat.le_refl _))
  have HV8 := hid (Sl_below HV7.out hb (Nat.le_refl _))
  have HB8 := hid (HB7.out.trans (hb.mono HB7.out.size))
  clear hb hs
  go_wp2_with fail
  refine (HT5.out _ _ (Fl_below HV.out HB8.out (Nat.le_refl _))).mono ?_
  rintro e w9 ⟨u9, rfl, hs, hb⟩
  have HM9 := hid hs
  have HS9 := hid (Sl_below HS8.out hb (Nat.le_refl _))
  have HL9 := hid (Sl_below HL8.out hb (Nat.le_refl _))
  have HV9 := hid (Sl_below HV8.out hb (Nat.le_refl _))
  have HB9 := hid (HB8.out.trans (hb.mono HB8.out.size))
  clear hb hs
  go_wp2_with fail
  refine (HT6.out _ _ (Fl_below HV.out HB9.out (Nat.le_refl _))).mono ?_
  rintro e wa ⟨rfl, hb⟩
  have HMa := hid (Sl_below HM9.out hb (Nat.le_refl _))
  have HSa := hid (Sl_below HS9.out hb (Nat.le_refl _))
  have HLa := hid (Sl_below HL9.out hb (Nat.le_refl _))
  have HVa := hid (Sl_below HV9.out hb (Nat.le_refl _))
  have HBa := hid (HB9.out.trans (hb.mono HB9.out.size))
  clear hb
  go_wp2_with fail
  refine (refCheck_any _ fs _ (Fl_below HV.out HBa.out (Nat.le_refl _)) HWF.out).mono ?_
  rintro e wb ⟨rfl, hb⟩
  rw [HCC.out]
  have HMb := hid (Sl_below HMa.out hb (Nat.le_refl _))
  have HSb := hid (Sl_below HSa.out hb (Nat.le_refl _))
  have HLb := hid (Sl_below HLa.out hb (Nat.le_refl _))
  have HVb := hid (Sl_below HVa.out hb (Nat.le_refl _))
  have HBb := hid (HBa.out.trans (hb.mono HBa.out.size))
  clear hb
  go_wp2_with fail
  refine (same_any _ _ V _ HVb.out HSb.out hV).mono ?_
  rintro e wc ⟨rfl, hb⟩
  have HMc := hid (Sl_below HMb.out hb (Nat.le_refl _))
  have HLc := hid (Sl_below HLb.out hb (Nat.le_refl _))
  have HBc := hid (HBb.out.trans (hb.mono HBb.out.size))
  clear hb
  go_wp2_with fail
  refine (sameInts_any _ _ L _ HLc.out HMc.out hL).mono ?_
  rintro e wd ⟨rfl, hb⟩
  have HBd := hid (HBc.out.trans (hb.mono HBc.out.size))
  clear hb
  go_wp2_with fail
  refine (bits_any b _).mono ?_
  rintro e we ⟨rfl, hw⟩
  obtain rfl := hw
  go_wp2_with fail
  go_ret
  exact ⟨rfl, HBd.out⟩
end Go.Proofs.Ytnaogcpcaabbhaa
