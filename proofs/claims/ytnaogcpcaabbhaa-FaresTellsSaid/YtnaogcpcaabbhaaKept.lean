/- Lent fares are as they were. -/
import Derived.Test.YtnaogcpcaabbhaaLentFares
import Derived.Lib.QuietBelow
namespace Go.Proofs.Ytnaogcpcaabbhaa
open Go.RowKit FloatPlain

theorem sameFare_any (P : Nat) (c1 c2 : Value) (cs : List Nat) (w : World) (hP : P < 18446744073709551616) (h1 : Sl w c1 (Fb cs)) (h2 : Sl w c2 (Fb cs)) (hw : ∀ j, at0 cs j < 18446744073709551616) :
    Calls Try.prog 40 #[.agg #[.float .f64 P, c1], .agg #[.float .f64 P, c2]] w fun e w' => e = .returned (.bool true) ∧ Below w.heap.size w w' := by
  obtain ⟨a1, n1, rfl, _⟩ := Sl_partsF h1
  obtain ⟨a2, n2, rfl, _⟩ := Sl_partsF h2
  have H1 := hid h1
  have H2 := hid h2
  have HP := hid hP
  have HW := hid hw
  clear h1 h2 hP hw
  go_enter Try.func40, Try.ntmps40
  go_wp2_with fail
  refine (same_self P HP.out _).mono ?_
  rintro e w5 ⟨rfl, hw⟩
  obtain rfl := hw
  go_wp2_with fail
  have hb0 := ((Below.refl w.heap.size w).alloc (Nat.le_refl _) (.cells #[.float .f64 P, .slice a1 cs.length n1] 48)).alloc (by simp) (.cells #[.float .f64 P, .slice a2 cs.length n2] 48)
  refine (sameReals_any _ _ cs _ (Sl_below H1.out hb0 (Nat.le_refl _)) (Sl_below H2.out hb0 (Nat.le_refl _)) HW.out).mono ?_
  rintro e w6 ⟨rfl, hb⟩
  have HB := hid (hb0.trans (hb.mono hb0.size))
  clear hb hb0
  go_wp2_with fail
  go_ret
  exact ⟨rfl, HB.out⟩

theorem keptFare_any (P g : Nat) (c2 : Value) (cs : List Nat) (w : World) (hP : P < 18446744073709551616) (hl : cs.length * 8 ≤ 140737488351232) (h1 : Sl w (.slice (some ⟨g, 0, none⟩) (cs.length + 12) (cs.length + 12)) (Fb (cs ++ marks 12))) (h0 : Sl w (.slice (some ⟨g, 0, none⟩) cs.length (cs.length + 12)) (Fb cs)) (h2 : Sl w c2 (Fb cs)) (hw : ∀ j, at0 cs j < 18446744073709551616) :
    Calls Try.prog 39 #[.agg #[.float .f64 P, .slice (some ⟨g, 0, none⟩) cs.length (cs.length + 12)], .agg #[.float .f64 P, c2]] w fun e w' => e = .returned (.bool true) ∧ Below w.heap.size w w' := by
  obtain ⟨a2, n2, rfl, _⟩ := Sl_partsF h2
  have H0 := hid h0
  have H1 := hid h1
  have H2 := hid h2
  have HP := hid hP
  have HW := hid hw
  have HL := hid hl
  clear h0 h1 h2 hP hw hl
  go_enter Try.func39, Try.ntmps39
  go_wp2_with fail
  have hb0 := ((Below.refl w.heap.size w).alloc (Nat.le_refl _) (.cells #[.float .f64 P, .slice (some ⟨g, 0, none⟩) cs.length (cs.length + 12)] 48)).alloc (by simp) (.cells #[.float .f64 P, .slice a2 cs.length n2] 48)
  have hc01 : ((w.alloc (.cells #[.float .f64 P, .slice (some ⟨g, 0, none⟩) cs.length (cs.length + 12)] 48)).alloc (.cells #[.float .f64 P, .slice a2 cs.length n2] 48)).cell? ⟨w.heap.size, 1, none⟩ = some (.slice (some ⟨g, 0, none⟩) cs.length (cs.length + 12)) := by simp
  have hc11 : ((w.alloc (.cells #[.float .f64 P, .slice (some ⟨g, 0, none⟩) cs.length (cs.length + 12)] 48)).alloc (.cells #[.float .f64 P, .slice a2 cs.length n2] 48)).cell? ⟨w.heap.size + 1, 1, none⟩ = some (.slice a2 cs.length n2) := by simp
  have hsz : ((w.alloc (.cells #[.float .f64 P, .slice (some ⟨g, 0, none⟩) cs.length (cs.length + 12)] 48)).alloc (.cells #[.float .f64 P, .slice a2 cs.length n2] 48)).heap.size = w.heap.size + 2 := by simp
  obtain ⟨w0, hw0⟩ : ∃ w0, (w.alloc (.cells #[.float .f64 P, .slice (some ⟨g, 0, none⟩) cs.length (cs.length + 12)] 48)).alloc (.cells #[.float .f64 P, .slice a2 cs.length n2] 48) = w0 := ⟨_, rfl⟩
  rw [hw0] at hb0 hc01 hc11 hsz ⊢
  have HB0 := hid hb0
  clear hw0
  refine (sameFare_any P _ _ cs _ HP.out (Sl_below H0.out HB0.out (Nat.le_refl _)) (Sl_below H2.out HB0.out (Nat.le_refl _)) HW.out).mono ?_
  rintro e w6 ⟨rfl, hb⟩
  have d01 : w6.cell? ⟨w.heap.size, 1, none⟩ = some (.slice (some ⟨g, 0, none⟩) cs.length (cs.length + 12)) := by rw [hb.cell (p := ⟨w.heap.size, 1, none⟩) (by show w.heap.size < w0.heap.size; omega)]; exact hc01
  have d11 : w6.cell? ⟨w.heap.size + 1, 1, none⟩ = some (.slice a2 cs.length n2) := by rw [hb.cell (p := ⟨w.heap.size + 1, 1, none⟩) (by show w.heap.size + 1 < w0.heap.size; omega)]; exact hc11
  have HB := hid (HB0.out.trans (hb.mono HB0.out.size))
  clear hb hc01 hc11 hsz hb0
  go_wp2_with fail
  refine (keptReals_any g _ cs _ HL.out HW.out (Sl_below H1.out HB.out (Nat.le_refl _)) (Sl_below H2.out HB.out (Nat.le_refl _))).mono ?_
  rintro e w7 ⟨rfl, hb⟩
  have HB7 := hid (HB.out.trans (hb.mono HB.out.size))
  clear hb
  go_wp2_with fail
  go_ret
  exact ⟨rfl, HB7.out⟩

set_option maxRecDepth 8000 in
set_option maxHeartbeats 2000000 in
theorem keptFares_any (G : Nat) (ps : List (Nat × Value)) (v : Value) (fs : List (Nat × List Nat)) (w : World) (hL : Lent w G ps fs) (hv : Fl w v fs) (hwf : Wf fs) (hl : fs.length * 32 ≤ 140737488351232) (hc8 : ∀ k, (csA fs k).length * 8 ≤ 140737488351232) :
    Calls Try.prog 15 #[.slice (some ⟨G, 0, none⟩) fs.length (fs.length + 12), v] w fun e w' => e = .returned (.bool true) ∧ Below w.heap.size w w' := by
  obtain ⟨a, c, rfl, hc, hcm, hnone⟩ := Fl_parts hv
  obtain ⟨n, hn⟩ : ∃ n, fs.length = n := ⟨_, rfl⟩
  have HV := hid hv
  have HN := hid hn
  have HC8 := hid hc8
  have HWF := hid hwf
  have HLE := hid hL
  rw [hn] at hc HV hl ⊢
  unfold maxLen at hcm
  clear hv hn hc8 hwf hL
  go_enter Try.func15, Try.ntmps15
  go_wp2_with fail
  go_loopw [6] (fun i wr => ∃ k : Nat, k ≤ n + 12 ∧ i = .int .i64 k ∧ Below w.heap.size w wr) (fun i _ => n + 12 - (intOf i).toNat)
  case atStart => exact ⟨0, by omega, rfl, Below.refl _ _⟩
  case round =>
    obtain ⟨k, hk, rfl, hB⟩ := hrel
    have HB := hid hB
    clear hB
    by_cases hlt : k < n + 12
    · have hlt0 : (k : Int) < (n : Int) + 12 := by omega
      have HLR := hid (Lent_below HLE.out HB.out (Nat.le_refl _))
      by_cases h2 : k < n
      · have hd1 : decide ((k : Int) < (n : Int)) = true := by simp; omega
        have hd3 : decide (k < n) = true := by simp; omega
        have hlt1 : (k : Int) < (n : Int) := by omega
        have hd2 : decide (n ≤ k) = false := by simp; omega
        have hd4 : decide ((n : Int) ≤ (k : Int)) = false := decide_eq_false (by omega)
        have hd5 : ¬ (n : Int) ≤ (k : Int) := by omega
        obtain ⟨g, p1, p2, p3⟩ := Lent_cell HLR.out (j := k) (by rw [HN.out]; exact h2)
        obtain ⟨b, off, cv, rfl, hbl, q1, q2, q3⟩ := Fl_cell (k := k) (Fl_below HV.out HB.out (Nat.le_refl _)) (by rw [HN.out]; exact h2)
        have HC := hid q3
        obtain ⟨ca, cc, rfl, hcc, hccm, hcn⟩ := Sl_partsF HC.out
        have HP3 := hid p3
        have HPP := hid (HWF.out.1 k)
        generalize prA fs k = P at p1 q1 HPP
        clear q3 p3
        have hsl := Sl_of_own HP3.out
        have hs0 := lent_sl HP3.out
        have HSL := hid hsl
        have HS0 := hid hs0
        clear hsl hs0
        go_wp2_with fail
        have c1 := cell_regrown p1
        have c2 := cell_regrown p2
        have c3 := cell_regrown q1
        have c4 := cell_regrown q2
        have cK : ∀ d os, Calls Try.prog 39 #[.agg #[.float .f64 P, .slice (some ⟨g, 0, none⟩) (csA fs k).length ((csA fs k).length + 12)], .agg #[.float .f64 P, .slice ca (csA fs k).length cc]] (Go.Sort.grow (redrawn wr d) os) fun e w'' => e = .returned (.bool true) ∧ ∃ p : Regrown, w'' = Go.Sort.grow (redrawn wr p.d) p.os := fun d os =>
          Calls.regrown_of (keptFare_any P g _ (csA fs k) _ HPP.out (HC8.out k) (Sl_below HSL.out (below_regrown wr d os) (Nat.le_refl _)) (Sl_below HS0.out (below_regrown wr d os) (Nat.le_refl _)) (Sl_below HC.out (below_regrown wr d os) (Nat.le_refl _)) (HWF.out.2 k))
        refine wp_region_quiet_below (by kernel_rfl) (by kernel_rfl) ?_
        repeat (go_big_quiet_step (first | exact cK _ _))
        refine wpQuiet_nil ?_
        intro w9 hw9
        obtain ⟨⟨dq, osq⟩, hw9⟩ := hw9
        have HB9 := hid (show Below wr.heap.size wr w9 by rw [hw9]; exact below_regrown wr dq osq)
        clear hw9 c1 c2 c3 c4 cK
        go_wp2_with fail
        go_roundw
        case rel => exact ⟨k + 1, by omega, by go_num, HB.out.trans (HB9.out.mono HB.out.size)⟩
        case measure => simp [intOf]; omega
      · obtain ⟨j, hj⟩ : ∃ j, k = n + j := ⟨k - n, by omega⟩
        have hj2 : j < 12 := by omega
        have hd1 : decide ((k : Int) < (n : Int)) = false := by simp; omega
        have hd3 : decide (k < n) = false := by simp; omega
        have hd2 : decide (n ≤ k) = true := by simp; omega
        have hd4 : decide ((n : Int) ≤ (k : Int)) = true := decide_eq_true (by omega)
        have hle : (n : Int) ≤ (k : Int) := by omega
        have hw1 : IntKind.i64.wrap ((k : Int) - n) = (j : Int) := by rw [i64_in _ (by omega)]; omega
        obtain ⟨p1, p2⟩ := Lent_mark HLR.out (j := j) hj2
        rw [HN.out, ← hj] at p1 p2
        have HJ := hid hj2
        have hmb := mb_lt 1 j
        have cM : ∀ d os, Calls Try.prog 35 #[.int .i64 1, .int .i64 (j : Int)] (Go.Sort.grow (redrawn wr d) os) fun e w'' => e = .returned (.agg #[.float .f64 (mb 1 j), .slice none 0 0]) ∧ ∃ p : Regrown, w'' = Go.Sort.grow (redrawn wr p.d) p.os := fun d os =>
          Calls.regrown_of (markFare_any j (by have := HJ.out; omega) _)
        obtain ⟨M, hM⟩ : ∃ M, mb 1 j = M := ⟨_, rfl⟩
        rw [hM] at cM p1 hmb
        have cS : ∀ d os, Calls Try.prog 40 #[.agg #[.float .f64 M, .slice none 0 0], .agg #[.float .f64 M, .slice none 0 0]] (Go.Sort.grow (redrawn wr d) os) fun e w'' => e = .returned (.bool true) ∧ ∃ p : Regrown, w'' = Go.Sort.grow (redrawn wr p.d) p.os := fun d os =>
          Calls.regrown_of (sameFare_any M _ _ [] _ hmb (Sl_nil _) (Sl_nil _) (fun t => by rw [at0_ge (Nat.zero_le _)]; decide))
        have c1 := cell_regrown p1
        have c2 := cell_regrown p2
        clear hM hmb hj p1 p2 hj2
        go_wp2_with fail
        refine wp_region_quiet_below (by kernel_rfl) (by kernel_rfl) ?_
        repeat (go_big_quiet_step (first | exact cM _ _ | exact cS _ _))
        refine wpQuiet_nil ?_
        intro w9 hw9
        obtain ⟨⟨dq, osq⟩, hw9⟩ := hw9
        have HB9 := hid (show Below wr.heap.size wr w9 by rw [hw9]; exact below_regrown wr dq osq)
        clear hw9 c1 c2 cM cS
        go_wp2_with fail
        go_roundw
        case rel => exact ⟨k + 1, by omega, by go_num, HB.out.trans (HB9.out.mono HB.out.size)⟩
        case measure => simp [intOf]; omega
    · obtain rfl : k = n + 12 := by omega
      go_wp2
      go_ret
      exact ⟨rfl, HB.out⟩
end Go.Proofs.Ytnaogcpcaabbhaa
