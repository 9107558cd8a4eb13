/- Check: the program's. -/
import Derived.Test.YtnaogcpcaabbhaaBase
namespace Go.Proofs.Ytnaogcpcaabbhaa
open Go.RowKit FloatPlain

set_option maxRecDepth 8000 in
set_option maxHeartbeats 2000000 in
theorem check_any (v : Value) (fs : List (Nat × List Nat)) (w : World) (hv : Fl w v fs) (hwf : Wf fs) : Calls Try.prog 11 #[v] w fun e w' => e = .returned (.int .i64 (chk fs)) ∧ Below w.heap.size w w' := by
  obtain ⟨a, c, rfl, hc, hcm, hnone⟩ := Fl_parts hv
  obtain ⟨n, hn⟩ : ∃ n, fs.length = n := ⟨_, rfl⟩
  have HV := hid hv
  have HN := hid hn
  have HWF := hid hwf
  rw [hn] at hc HV ⊢
  unfold maxLen at hcm
  clear hv hn hwf
  by_cases h1 : n < 1
  · have hbad := hid (chk_bad (fs := fs) (fun h => by have := h.1; have := HN.out; omega))
    have h1' : (n : Int) < 1 := by omega
    clear h1
    go_enter Try.func11, Try.ntmps11
    go_wp2_with fail
    go_ret
    rw [hbad.out]
    exact ⟨rfl, Below.refl _ _⟩
  by_cases h2 : 16 < n
  · have hbad := hid (chk_bad (fs := fs) (fun h => by have := h.2.1; have := HN.out; omega))
    have h2' : (16 : Int) < (n : Int) := by omega
    have h1' : (1 : Int) ≤ (n : Int) := by omega
    clear h1 h2
    go_enter Try.func11, Try.ntmps11
    go_wp2_with fail
    go_ret
    rw [hbad.out]
    exact ⟨rfl, Below.refl _ _⟩
  have h2' : (n : Int) ≤ 16 := by omega
  have h1' : (1 : Int) ≤ (n : Int) := by omega
  go_enter Try.func11, Try.ntmps11
  go_wp2_with fail
  go_loopw [3, 19] (fun l i wr => ∃ k : Nat, k ≤ n ∧ i = .int .i64 k ∧ l = .float .f64 (lastP fs k) ∧ Below w.heap.size w wr ∧ ∀ j, j < k → Elem fs j) (fun _ i _ => n - (intOf i).toNat)
  case atStart => exact ⟨0, by omega, rfl, rfl, Below.refl _ _, fun j h => absurd h (by omega)⟩
  case round =>
    obtain ⟨k, hk, rfl, rfl, hb, hE⟩ := hrel
    have HB := hid hb
    have HE := hid hE
    clear hb hE
    by_cases hlt : k < n
    · have hlt' : (k : Int) < (n : Int) := by omega
      obtain ⟨b, off, cv, rfl, hbl, q1, q2, q3⟩ := Fl_cell (k := k) (Fl_below HV.out HB.out (Nat.le_refl _)) (by rw [HN.out]; exact hlt)
      have HC := hid q3
      clear q3
      obtain ⟨P, hP⟩ : ∃ P, prA fs k = P := ⟨_, rfl⟩
      rw [hP] at q1
      have HP := hid hP
      obtain ⟨L, hL⟩ : ∃ L, lastP fs k = L := ⟨_, rfl⟩
      rw [hL]
      have HL := hid hL
      clear hP hL
      obtain ⟨ca, cc, rfl, hcc, hccm, hcn⟩ := Sl_partsF HC.out
      obtain ⟨m, hm⟩ : ∃ m, (csA fs k).length = m := ⟨_, rfl⟩
      rw [hm] at hcc hcn HC q2
      have HM := hid hm
      clear hm
      unfold maxLen at hccm
      obtain ⟨b1, hb1⟩ : ∃ b, withinB P 0 L = b := ⟨_, rfl⟩
      have HB1 := hid hb1
      have hstf := store_run
      go_wp2_with fail
      refine (within_any _ _ _ _).mono ?_
      rintro e w5 ⟨rfl, hw⟩
      obtain rfl := hw
      rw [hb1]
      clear hb1
      have HB2 := hid (HB.out.alloc HB.out.size (.cells #[.float .f64 P, .slice ca m cc] 48))
      have bad : ¬ Elem fs k → chk fs = 260 := fun h => chk_bad fun hg => h (hg.2.2 k (by rw [HN.out]; exact hlt))
      have HBAD := hid bad
      clear bad
      cases b1
      · have hbad := hid (HBAD.out fun h => by have := h.1; rw [HP.out, HL.out, HB1.out] at this; cases this)
        go_wp2_with fail
        go_ret
        rw [hbad.out]
        exact ⟨rfl, HB2.out⟩
      by_cases hm1 : m < 1
      · have hbad := hid (HBAD.out fun h => by have := h.2.1.1; rw [HM.out] at this; omega)
        have hm1' : (m : Int) < 1 := by omega
        clear hm1
        go_wp2_with fail
        go_ret
        rw [hbad.out]
        exact ⟨rfl, HB2.out⟩
      by_cases hm2 : 256 < m
      · have hbad := hid (HBAD.out fun h => by have := h.2.1.2.1; rw [HM.out] at this; omega)
        have hm1' : (1 : Int) ≤ (m : Int) := by omega
        have hm2' : (256 : Int) < (m : Int) := by omega
        clear hm1 hm2
        go_wp2_with fail
        go_ret
        rw [hbad.out]
        exact ⟨rfl, HB2.out⟩
      have hm1' : (1 : Int) ≤ (m : Int) := by omega
      have hm2' : (m : Int) ≤ 256 := by omega
      have HC2 := hid (Sl_below (B := wr.heap.size) HC.out ((Below.refl wr.heap.size wr).alloc (Nat.le_refl _) (.cells #[.float .f64 P, .slice ca m cc] 48)) (Nat.le_refl _))
      go_wp2_with fail
      go_loop [6, 45] (fun s i => ∃ j : Nat, j ≤ m ∧ i = .int .i64 j ∧ s = .float .f64 (sumK (csA fs k) j) ∧ ∀ t, t < j → Lik (at0 (csA fs k) t)) (fun _ i => m - (intOf i).toNat)
      case atStart => exact ⟨0, by omega, rfl, rfl, fun t h => absurd h (by omega)⟩
      case round =>
        obtain ⟨j, hj, rfl, rfl, hLk⟩ := hrel
        have HLK := hid hLk
        clear hLk
        by_cases hlt2 : j < m
        · have hlt2' : (j : Int) < (m : Int) := by omega
          obtain ⟨b3, o3, rfl, _, q3⟩ := Sl_cellF (k := j) HC2.out (by rw [HM.out]; exact hlt2)
          obtain ⟨b4, hb4⟩ : ∃ b, withinB (at0 (csA fs k) j) 0 4607182418800017408 = b := ⟨_, rfl⟩
          have HB4 := hid hb4
          go_wp2_with fail
          refine (within_any _ _ _ _).mono ?_
          rintro e w5 ⟨rfl, hw⟩
          obtain rfl := hw
          rw [hb4]
          clear hb4
          have hwj := HWF.out.2 k j
          have HIFF := hid (within_lik hwj)
          clear hwj
          cases b4
          · have hbad := hid (HBAD.out fun h => by
              have := HIFF.out.2 (h.2.1.2.2 j (by rw [HM.out]; exact hlt2))
              rw [HB4.out] at this; cases this)
            go_wp2_with fail
            go_ret
            rw [hbad.out]
            exact ⟨rfl, HB2.out⟩
          · have hL : ∀ t, t < j + 1 → Lik (at0 (csA fs k) t) := fun t ht => by
              by_cases e : t = j
              · subst e; exact HIFF.out.1 HB4.out
              · exact HLK.out t (by omega)
            have hadd := add_run (sum_step (cs := csA fs k) (k := j) (by omega) (fun t ht => hL t (by omega)))
            have HL2 := hid hL
            clear hL
            obtain ⟨S, hS⟩ : ∃ S, sumK (csA fs k) (j + 1) = S := ⟨_, rfl⟩
            rw [hS] at hadd
            have HS := hid hS
            clear hS
            generalize sumK (csA fs k) j = S0 at hadd ⊢
            generalize at0 (csA fs k) j = A at hadd q3 ⊢
            go_wp2_with fail
            go_round
            case rel => exact ⟨j + 1, by omega, by go_num, by rw [HS.out], HL2.out⟩
            case measure => simp [intOf]; omega
        · obtain rfl : j = m := by omega
          obtain ⟨b5, hb5⟩ : ∃ b, withinB (sumK (csA fs k) j) 4607182409792818153 4607182423303617035 = b := ⟨_, rfl⟩
          have HB5 := hid hb5
          go_wp2_with fail
          refine (within_any _ _ _ _).mono ?_
          rintro e w5 ⟨rfl, hw⟩
          obtain rfl := hw
          rw [hb5]
          clear hb5
          cases b5
          · have hbad := hid (HBAD.out fun h => by
              have := h.2.2
              rw [HM.out, HB5.out] at this; cases this)
            generalize sumK (csA fs k) j = S0
            go_wp2_with fail
            go_ret
            rw [hbad.out]
            exact ⟨rfl, HB2.out⟩
          · have hel : Elem fs k := ⟨by rw [HP.out, HL.out]; exact HB1.out, ⟨by rw [HM.out]; omega, by rw [HM.out]; omega, fun t ht => HLK.out t (by rw [← HM.out]; exact ht)⟩, by rw [HM.out]; exact HB5.out⟩
            have HEL := hid hel
            clear hel
            generalize sumK (csA fs k) j = S0
            go_wp2_with fail
            go_roundw
            case rel =>
              refine ⟨k + 1, by omega, by go_num, ?_, HB2.out, fun t ht => ?_⟩
              · unfold lastP
                rw [if_neg (by omega), Nat.add_sub_cancel, HP.out]
              · by_cases e : t = k
                · subst e; exact HEL.out
                · exact HE.out t (by omega)
            case measure => simp [intOf]; omega
    · obtain rfl : k = n := by omega
      have hgood := hid (chk_good (fs := fs) ⟨by rw [HN.out]; omega, by rw [HN.out]; omega, fun j hj => HE.out j (by rw [← HN.out]; exact hj)⟩)
      go_wp2_with fail
      go_ret
      rw [hgood.out]
      exact ⟨rfl, HB.out⟩
end Go.Proofs.Ytnaogcpcaabbhaa
