/- The law FaresHope. -/
import Derived.Test.YtnaogcpcaabbhaaHopeMade
namespace Go.Proofs.Ytnaogcpcaabbhaa
open Go.RowKit FloatPlain

theorem few_len {fs : List (Nat × List Nat)} {ps : Nat → Nat} (h : Few fs ps) : fs.length * 32 ≤ 140737488351232 ∧ ∀ k, (csA fs k).length * 8 ≤ 140737488351232 := by
  refine ⟨by have := h.len; omega, fun k => ?_⟩
  rcases Nat.lt_or_ge k fs.length with c | c
  · have := (h.nice k c).len; omega
  · have e : csA fs k = [] := by
      unfold csA
      rw [List.getD_eq_getElem?_getD, List.getElem?_eq_none c]
      rfl
    rw [e]; exact Nat.zero_le _

set_option maxRecDepth 8000 in
set_option maxHeartbeats 8000000 in
theorem faresHope_any (l : List Int) (s0 : Int) (v : Value) (w : World) (hv : Sl w v (Zb l)) : Calls Try.prog 5 #[v, .int .i64 s0] w fun e w' => e = .returned (.bool true) ∧ Below w.heap.size w w' := by
  obtain ⟨a, c, rfl, _, _⟩ := Sl_partsZ hv
  obtain ⟨s, hs⟩ : ∃ s : Nat, s0 % 5 = (s : Int) := Int.eq_ofNat_of_zero_le (Int.emod_nonneg _ (by decide))
  have hs4 : s ≤ 4 := by have := Int.emod_lt_of_pos s0 (b := 5) (by decide); omega
  have HS := hid hs
  have HV := hid hv
  generalize l.length = ln at HV ⊢
  clear hs hv
  go_enter Try.func5, Try.ntmps5
  go_wp2_with fail
  refine (awake_any _).mono ?_
  rintro e w1 ⟨rfl, hb⟩
  have HB1 := hid hb
  clear hb
  go_wp2_with fail
  refine (few_any l _ _ (Sl_below HV.out HB1.out (Nat.le_refl _))).mono ?_
  rintro e w2 ⟨v2, rfl, fs, hfl, ⟨ps, hfew⟩, hlen1, hb⟩
  have HB2 := hid (HB1.out.trans (hb.mono HB1.out.size))
  have HFL := hid hfl
  have HFEW := hid hfew
  have HWF := hid hfew.wf
  have HG := hid (hfew.good hlen1)
  have hlen3 := hfew.len
  obtain ⟨hl32, hl8⟩ := few_len hfew
  have HL8 := hid hl8
  clear hb hfl hfew hl8
  go_wp2_with fail
  refine (pick_any _ _ (by decide) (by decide) _).mono ?_
  rintro e w5 ⟨rfl, hw⟩
  obtain rfl := hw
  rw [HS.out]
  go_wp2_with fail
  refine (copyFares_any _ fs _ HFL.out hl32 HL8.out).mono ?_
  rintro e w3 ⟨v3, rfl, hfl3, hb3⟩
  have HB3 := hid (HB2.out.trans (hb3.mono HB2.out.size))
  have HFL2 := hid (Fl_below HFL.out hb3 (Nat.le_refl _))
  have HFL3 := hid hfl3
  clear hfl3 hb3
  go_wp2_with fail
  refine (values_any _ fs s _ HFL3.out HWF.out HG.out (by omega)).mono ?_
  rintro e w4 ⟨v4, rfl, ho, hb⟩
  have HB4 := hid (HB3.out.trans (hb.mono HB3.out.size))
  have HFL4 := hid (Fl_below HFL2.out hb (Nat.le_refl _))
  have HO4 := hid ho
  clear ho hb
  obtain ⟨g4, cap4, rfl, hc4, _⟩ := own_some HO4.out (by omega)
  have HR := hid (few_rows HFEW.out (s := s) hs4 fs.length (Nat.le_refl _))
  have hc0 : w4.cell? ⟨g4, 0, none⟩ = some (.float .f64 0) := by
    rw [HO4.out.cellAt 0 (by omega), Fb_get (by rw [val0_len]; omega), HR.out.zero]
  have hw2 : IntKind.i64.wrap ((s : Int) + 1) = (s : Int) + 1 := by rw [IntKind.wrap_i64]; omega
  obtain ⟨n, hn⟩ : ∃ n, fs.length = n := ⟨_, rfl⟩
  have HNN := hid hn
  rw [hn] at hlen1 hlen3
  obtain ⟨fa, fc, rfl, _, _, _⟩ := Fl_parts HFL4.out
  obtain ⟨b, off, cv, rfl, hbl, q1, q2, q3⟩ := Fl_cell (k := 0) HFL4.out (by rw [hn]; omega)
  rw [HFEW.out.pr 0 (by rw [hn]; omega)] at q1
  rw [hn] at HFL4 HO4 HR ⊢
  have HQ1 := hid q1
  have HBL := hid hbl
  clear hn q1 q2 q3 hbl hl32
  have hne0 : (FloatKind.f64.format.order 0 0 != some .eq) = false := by decide
  go_wp2_with fail
  clear hc0
  go_loopw [8] (fun i wi => ∃ x : Nat, x ≤ s + 1 ∧ i = .int .i64 x ∧ Below w4.heap.size w4 wi) (fun i _ => s + 1 - (intOf i).toNat)
  case atStart => exact ⟨0, by omega, rfl, Below.refl _ _⟩
  case round =>
    obtain ⟨x, hx, rfl, hbR⟩ := hrel
    have HBR := hid hbR
    clear hbR
    by_cases hlt : x ≤ s
    · have hlt' : (x : Int) ≤ (s : Int) := by omega
      have hlt2 : (x : Int) < (s : Int) + 1 := by omega
      have HOR := hid (own_below HO4.out HBR.out (Nat.le_refl _))
      have HFR := hid (Fl_below HFL4.out HBR.out (Nat.le_refl _))
      have hq : wr.cell? ⟨g4, x, none⟩ = some (.float .f64 (at0 (val0 fs s n) x)) := by rw [HOR.out.cellAt x (by omega), Fb_get (by rw [val0_len]; omega)]
      have HQ := hid hq
      have hqr := cell_regrown hq
      clear hq
      have hA := HR.out.pos x
      have hAv := few_bound HR.out hs4 (HFEW.out.le 0) hlen3 hlt
      have cH : ∀ d os, Calls Try.prog 29 #[.slice (some ⟨b, off, none⟩) n fc, .int .i64 (n : Int), .int .i64 (x : Int)] (Go.Sort.grow (redrawn wr d) os) fun e w'' => e = .returned (.float .f64 (at0 (val0 fs s n) x)) ∧ ∃ p : Regrown, w'' = Go.Sort.grow (redrawn wr p.d) p.os := fun d os =>
        Calls.regrown_of (hope_any fs s HWF.out HG.out (by omega) n (by rw [HNN.out]; exact Nat.le_refl _) x hlt _ _ (Fl_below HFR.out (below_regrown wr d os) (Nat.le_refl _)))
      have cN : ∀ d os, Calls Try.prog 28 #[.float .f64 (at0 (val0 fs s n) x), .float .f64 (at0 (val0 fs s n) x)] (Go.Sort.grow (redrawn wr d) os) fun e w'' => e = .returned (.bool true) ∧ ∃ p : Regrown, w'' = Go.Sort.grow (redrawn wr p.d) p.os := fun d os =>
        Calls.regrown_of ((near_any _ hA hAv _).mono fun e w' h => ⟨h.1, by rw [← h.2]; exact Below.refl _ _⟩)
      obtain ⟨A, hAe⟩ : ∃ A, at0 (val0 fs s n) x = A := ⟨_, rfl⟩
      rw [hAe] at hqr cH cN
      have HAE := hid hAe
      clear hA hAv hAe
      go_wp2_with fail
      refine wp_region_quiet_below (by kernel_rfl) (by kernel_rfl) ?_
      repeat (go_big_quiet_step (first | exact cH _ _ | exact cN _ _))
      refine wpQuiet_nil ?_
      intro w9 hw9
      obtain ⟨⟨dq, osq⟩, hw9⟩ := hw9
      have HB9 := hid (show Below wr.heap.size wr w9 by rw [hw9]; exact below_regrown wr dq osq)
      clear hw9 cH cN hqr
      have HBE := hid (HBR.out.trans (HB9.out.mono HBR.out.size))
      have hx1 : IntKind.i64.wrap ((x : Int) + 1) = ((x + 1 : Nat) : Int) := by rw [IntKind.wrap_i64]; omega
      by_cases hx0 : 0 < x
      · have hxp : (0 : Int) < (x : Int) := by omega
        have hxd : decide (0 < x) = true := decide_eq_true hx0
        have hxd2 : decide ((0 : Int) < (x : Int)) = true := decide_eq_true hxp
        obtain ⟨z, hz⟩ : ∃ z, x = z + 1 := ⟨x - 1, by omega⟩
        obtain ⟨D, hD1, hD2⟩ := law_low HR.out hs4 (HFEW.out.le 0) hlen3 (x := z) (by omega)
        obtain ⟨E1, E2, hE1, hE2, hE3⟩ := law_high HR.out hs4 (HFEW.out.le 0) hlen3 (x := z) (by omega)
        rw [← hz, HAE.out] at hD2 hE3
        have hwz : IntKind.i64.wrap ((x : Int) - 1) = (z : Int) := by rw [IntKind.wrap_i64]; omega
        have hzs : (z : Int) < (s : Int) + 1 := by omega
        have hcx : w9.cell? ⟨g4, x, none⟩ = some (.float .f64 A) := by
          rw [HB9.out.cell (p := ⟨g4, x, none⟩) (by show g4 < wr.heap.size; exact (HOR.out.lt g4 rfl).2), HQ.out, HAE.out]
        have hcz : w9.cell? ⟨g4, z, none⟩ = some (.float .f64 (at0 (val0 fs s n) z)) := by
          rw [HB9.out.cell (p := ⟨g4, z, none⟩) (by show g4 < wr.heap.size; exact (HOR.out.lt g4 rfl).2), HOR.out.cellAt z (by omega), Fb_get (by rw [val0_len]; omega)]
        have hcp : w9.cell? ⟨b, off, none⟩ = some (.float .f64 (intW (ps 0 : Int))) := by
          have h9 := HQ1.out
          rw [Nat.zero_mul] at h9
          rw [HBE.out.cell (p := ⟨b, off, none⟩) (by show b < w4.heap.size; exact HBL.out)]
          exact h9
        have hsub := sub_run hD1
        have had1 := add_run hE1
        have had2 := add_run hE2
        unfold mil at hsub had2
        have hlo : (FloatKind.f64.format.order A D == some .lt) = false := hD2
        have hhi : (FloatKind.f64.format.order A E2 == some .gt) = false := hE3
        generalize at0 (val0 fs s n) z = B0 at hcz hsub had1
        generalize intW (ps 0 : Int) = PW at hcp had1
        clear hD1 hD2 hE1 hE2 hE3
        have HX0 := hid hx0
        have HZX := hid hz
        clear hx0 hz
        have hn0 : (0 : Int) < (n : Int) := by omega
        go_wp2_with fail
        go_big_quiet (fail)
        go_wp2_with fail
        go_roundw
        case rel => exact ⟨x + 1, by omega, by go_num, below_drewN HBE.out _⟩
        case measure => simp [intOf]; omega
      · have hxp : ¬ (0 : Int) < (x : Int) := by omega
        have hxd : decide (0 < x) = false := decide_eq_false hx0
        have hxd2 : decide ((0 : Int) < (x : Int)) = false := decide_eq_false hxp
        go_wp2_with fail
        go_big_quiet (fail)
        go_wp2_with fail
        go_roundw
        case rel => exact ⟨x + 1, by omega, by go_num, below_drewN HBE.out _⟩
        case measure => simp [intOf]; omega
    · have hlt' : ¬ (x : Int) ≤ (s : Int) := by omega
      go_wp2_with fail
      go_ret
      exact ⟨rfl, HB4.out.trans (HBR.out.mono HB4.out.size)⟩
end Go.Proofs.Ytnaogcpcaabbhaa
