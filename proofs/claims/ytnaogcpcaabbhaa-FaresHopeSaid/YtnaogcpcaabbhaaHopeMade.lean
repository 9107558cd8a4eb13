/- few: the walk. -/
import Derived.Test.YtnaogcpcaabbhaaHopeFew
namespace Go.Proofs.Ytnaogcpcaabbhaa
open Go.RowKit FloatPlain

theorem sum_snoc (ws : List Nat) (x : Nat) : (ws ++ [x]).sum = ws.sum + x := by simp
theorem four_of {ws : List Nat} (h : ws.length = 4) : ∃ a b c d, ws = [a, b, c, d] := by
  match ws, h with
  | [a, b, c, d], _ => exact ⟨a, b, c, d, rfl⟩
theorem Fb_two (P : Nat) (cv : Value) (h : cv.oneCell' = true) : ∀ u ∈ [Value.float .f64 P, cv], u.oneCell' = true := by
  intro u hu
  simp only [List.mem_cons, List.not_mem_nil, or_false] at hu
  rcases hu with rfl | rfl
  · rfl
  · exact h

set_option maxRecDepth 8000 in
set_option maxHeartbeats 8000000 in
theorem few_any (l : List Int) (v : Value) (w : World) (hv : Sl w v (Zb l)) : Calls Try.prog 25 #[v] w fun e w' => ∃ v', e = .returned v' ∧ ∃ fs, Fl w' v' fs ∧ (∃ ps, Few fs ps) ∧ 1 ≤ fs.length ∧ Below w.heap.size w w' := by
  obtain ⟨a, c, rfl, hc, hcm⟩ := Sl_partsZ hv
  obtain ⟨n, hn⟩ : ∃ n, l.length = n := ⟨_, rfl⟩
  obtain ⟨i0, hi, hz0, hz1, hz2⟩ := info_parts info48
  obtain ⟨j0, hj, hy0, hy1, hy2⟩ := info_parts info33
  have HI := hid hi
  have HZ := hid hz2
  have HJ := hid hj
  have HY := hid hy2
  have HV := hid hv
  have HN := hid hn
  rw [hn] at hc HV ⊢
  unfold maxLen at hcm
  clear hv hn hi hz2 hj hy2
  have htop := intW_top
  have hzero := intW_zero
  have HTOP := hid htop
  have HZERO := hid hzero
  clear htop hzero
  have hstf := store_run
  go_enter Try.func25, Try.ntmps25
  go_wp2_with fail
  go_loopw [3, 4, 5] (fun out pr i wr => ∃ k P x : Nat, k ≤ 3 ∧ x = k * 5 ∧ i = .int .i64 (x : Int) ∧ P ≤ 1000 ∧ 1000 ≤ P + 299 * k ∧ pr = .float .f64 (intW (P : Int)) ∧ FewR w wr out k P) (fun _ _ i _ => 15 - (intOf i).toNat)
  case atStart => exact ⟨0, 1000, 0, by omega, rfl, rfl, by omega, by omega, by rw [HTOP.out], FewR.start w _⟩
  case round =>
    obtain ⟨k, P, x, hk, hx, rfl, hP, hP2, rfl, hfew⟩ := hrel
    obtain ⟨wo, rfl⟩ : ∃ wo, wo = wr := ⟨_, rfl⟩
    have HX := hid hx
    have hx15 : x ≤ 15 := by omega
    clear hx
    have HFR := hid hfew
    obtain ⟨⟨cps, fs, ps, h1, h2, hoR, hF, hw, hmon⟩, hbR⟩ := hfew
    obtain ⟨oa, oc, rfl, hoc, hocm⟩ := own_form hoR
    have H1 := hid h1
    have H2 := hid h2
    have HOR := hid hoR
    have HF := hid hF
    have HW := hid hw
    have HM := hid hmon
    have HBR := hid hbR
    clear h1 h2 hoR hF hw hmon hbR
    have hx5 : IntKind.i64.wrap ((x : Int) + 4) = ((x + 4 : Nat) : Int) := by rw [IntKind.wrap_i64]; omega
    by_cases hA : x + 4 < n
    · have hA' : ((x + 4 : Nat) : Int) < (n : Int) := by omega
      have hAd : decide (((x + 4 : Nat) : Int) < (n : Int)) = true := decide_eq_true hA'
      by_cases hB : k < 3
      · have hB' : (k : Int) < 3 := by omega
        have hBd : decide ((k : Int) < 3) = true := decide_eq_true hB'
        have hxn : (x : Int) < (n : Int) := by omega
        obtain ⟨b, off, n0, rfl, hbl, q0⟩ := Sl_cellZ (k := x) (Sl_below HV.out HBR.out (Nat.le_refl _)) (by rw [HN.out]; omega)
        obtain ⟨d, hd⟩ : ∃ d : Nat, n0 % 300 = (d : Int) := Int.eq_ofNat_of_zero_le (Int.emod_nonneg _ (by decide))
        have hd1 : d ≤ 299 := by have := Int.emod_lt_of_pos n0 (b := 300) (by decide); omega
        have HD := hid hd
        have HBL := hid hbl
        clear hd hbl
        have hcv := conv_int_real (d : Int)
        have hsub := sub_run (fsub_int (u := P) (p := d) (by omega) (by omega))
        obtain ⟨Q, hQ⟩ : ∃ Q, P - d = Q := ⟨_, rfl⟩
        rw [hQ] at hsub
        obtain ⟨PW, hPW⟩ : ∃ PW, intW (P : Int) = PW := ⟨_, rfl⟩
        obtain ⟨QW, hQW⟩ : ∃ QW, intW (Q : Int) = QW := ⟨_, rfl⟩
        rw [hPW, hQW] at hsub
        rw [hPW] at ⊢
        have HQW := hid hQW
        clear hPW hQW
        generalize intW (d : Int) = DW at hcv hsub
        go_wp2_with fail
        refine (pick_any _ _ (by decide) (by decide) _).mono ?_
        rintro e w5 ⟨rfl, hw⟩
        obtain rfl := hw
        rw [HD.out]
        go_wp2_with fail
        clear hcv hsub q0
        go_loopw [6, 7, 8] (fun sm cs kk wi => ∃ (m : Nat) (ws : List Nat), m ≤ 4 ∧ ws.length = m ∧ (∀ y ∈ ws, y ≤ 8) ∧ kk = .int .i64 ((m + 1 : Nat) : Int) ∧ sm = .float .f64 (intW (ws.sum : Int)) ∧ ws.sum ≤ 8 * m ∧ wi.ownsRow wo.heap.size 33 1 cs m (Fb (Wb ws)) ∧ Below wo.heap.size wo wi) (fun _ _ kk _ => 5 - (intOf kk).toNat)
        case atStart => exact ⟨0, [], by omega, rfl, (fun y hy => by cases hy), rfl, by rw [show ((([] : List Nat).sum : Nat) : Int) = ((0 : Nat) : Int) from rfl, HZERO.out], Nat.le_refl _, World.ownsRow_nil _ _ _ _, Below.refl _ _⟩
        case round =>
          obtain ⟨m, ws, hm, hwl, hw8, rfl, rfl, hws, hoI, hbI⟩ := hrel
          obtain ⟨ca, cc, rfl, hcc, hccm⟩ := own_form hoI
          have HOI := hid hoI
          have HBI := hid hbI
          have HWL := hid hwl
          have HW8 := hid hw8
          clear hoI hbI hwl hw8
          by_cases hlt : m < 4
          · have hlt' : ((m + 1 : Nat) : Int) < 5 := by omega
            have hwx : IntKind.i64.wrap ((x : Int) + ((m + 1 : Nat) : Int)) = ((x + (m + 1) : Nat) : Int) := by rw [IntKind.wrap_i64]; omega
            have hxm : ((x + (m + 1) : Nat) : Int) < (n : Int) := by omega
            have hx0 : (0 : Int) ≤ ((x + (m + 1) : Nat) : Int) := by omega
            obtain ⟨b', off', n1, e9, _, q1⟩ := Sl_cellZ (k := x + (m + 1)) (Sl_below (Sl_below HV.out HBR.out (Nat.le_refl _)) HBI.out (Nat.le_refl _)) (by rw [HN.out]; omega)
            injection e9 with e9
            injection e9 with e91 e92
            subst e91 e92
            obtain ⟨g, hg⟩ : ∃ g : Nat, n1 % 9 = (g : Int) := Int.eq_ofNat_of_zero_le (Int.emod_nonneg _ (by decide))
            have hg1 : g ≤ 8 := by have := Int.emod_lt_of_pos n1 (b := 9) (by decide); omega
            have HG := hid hg
            clear hg
            have hcv := conv_int_real (g : Int)
            have hadd := add_run (fadd_int (u := ws.sum) (p := g) (by omega) (by omega) (by omega))
            rw [← sum_snoc] at hadd
            have HSS := hid (sum_snoc ws g)
            have HWS := hid (Wb_snoc ws g)
            obtain ⟨S1, hS1⟩ : ∃ S1, intW ((ws ++ [g]).sum : Int) = S1 := ⟨_, rfl⟩
            rw [hS1] at hadd
            have HS1 := hid hS1
            clear hS1
            generalize intW (ws.sum : Int) = S0 at hadd ⊢
            generalize intW (g : Int) = GW at hcv hadd HWS
            go_wp2_with fail
            refine (pick_any _ _ (by decide) (by decide) _).mono ?_
            rintro e w5 ⟨rfl, hw⟩
            obtain rfl := hw
            rw [HG.out]
            go_wp2_with (at_builtin; refine wpList_append_own_at _ rfl _ _ 27 rfl wo.heap.size 33 j0 (.float .f64 0) 1 8 Try.underlying27 HJ.out hy0 hy1 HY.out rfl (by decide) _ m (Fb (Wb ws)) rfl (HOI.out.alloc _) ⟨wr.heap.size, 0, none⟩ 1 1 [.float .f64 GW] rfl rfl (cell_one_new _ _ _) (by intro u hu; rw [List.mem_singleton] at hu; subst hu; rfl) (by unfold maxLen; omega) (by omega) (by have := HBI.out.size; simp; omega) ?_; intro v4 w4 hown hgrow _ _)
            have hb4 := (HBI.out.alloc HBI.out.size (.cells #[.float .f64 GW] 33)).grown hgrow (by have := HBI.out.size; simp; omega) (fun q hq => (HOI.out.lt q hq).1)
            have ho4 : w4.ownsRow wo.heap.size 33 1 v4 (m + 1) (Fb (Wb (ws ++ [g]))) := by rw [HWS.out, Fb_app]; exact hown
            have HB4 := hid hb4
            have HO4 := hid ho4
            clear hb4 ho4 hown hgrow
            go_wp2_with fail
            go_roundw
            case rel => exact ⟨m + 1, ws ++ [g], by omega, by rw [List.length_append, HWL.out]; rfl, (fun y hy => by
              rcases List.mem_append.1 hy with h | h
              · exact HW8.out y h
              · rw [List.mem_singleton] at h; omega), by go_num, by rw [HS1.out], by rw [HSS.out]; omega, HO4.out, HB4.out⟩
            case measure => simp [intOf]; omega
          · obtain rfl : m = 4 := by omega
            obtain ⟨wa, wb, wc, wd, rfl⟩ := four_of HWL.out
            have ha8 : wa ≤ 8 := HW8.out _ (by simp)
            have hb8 : wb ≤ 8 := HW8.out _ (by simp)
            have hc8 : wc ≤ 8 := HW8.out _ (by simp)
            have hd8 : wd ≤ 8 := HW8.out _ (by simp)
            obtain ⟨S, hS⟩ : ∃ S, [wa, wb, wc, wd].sum = S := ⟨_, rfl⟩
            rw [hS] at hws ⊢
            have hS2 : S = wa + wb + wc + wd := by rw [← hS]; simp; omega
            have HS := hid hS2
            have hS0 : S < 1000 := by omega
            have hgt := (gt_whole hS0).1
            have heq := (gt_whole hS0).2
            have HA8 := hid ha8
            have HB8 := hid hb8
            have HC8 := hid hc8
            have HD8 := hid hd8
            clear hS hS2 ha8 hb8 hc8 hd8
            have h45 : ¬ ((4 + 1 : Nat) : Int) < 5 := by omega
            have hxx : IntKind.i64.wrap ((x : Int) + 5) = ((x + 5 : Nat) : Int) := by rw [IntKind.wrap_i64]; omega
            by_cases hz : S = 0
            · rw [decide_eq_false (show ¬ 0 < S by omega)] at hgt
              rw [decide_eq_true hz] at heq
              obtain ⟨SW, hSW⟩ : ∃ SW, intW (S : Int) = SW := ⟨_, rfl⟩
              rw [hSW] at hgt heq ⊢
              clear hSW
              have HZS := hid hz
              clear hz
              go_wp2_with fail
              go_loop [10] (fun kk => kk = .int .i64 0) (fun _ => 0)
              case atStart => rfl
              case round =>
                subst hrel
                have hone := own_of_cells (base := wr.heap.size) (n := 1) (cap := 1) (xs := Fb [4607182418800017408]) (heap_alloc_new wr (.cells #[.float .f64 4607182418800017408] 33)) (Nat.le_refl _) (Nat.le_refl _) (by unfold maxLen; omega) rfl rfl
                have hs1 : (wr.alloc (.cells #[.float .f64 4607182418800017408] 33)).heap.size = wr.heap.size + 1 := by simp
                have hb1 := HBI.out.alloc HBI.out.size (.cells #[.float .f64 4607182418800017408] 33)
                have HONE := hid hone
                have HS1 := hid hs1
                have HB1 := hid hb1
                clear hone hs1 hb1
                go_wp2_with (at_builtin; refine wpList_append_own_at _ rfl _ _ 22 rfl w.heap.size 48 i0 (.agg #[.float .f64 0, .slice none 0 0]) 2 32 Try.underlying22 HI.out hz0 hz1 HZ.out rfl (by decide) _ k (Cl cps) rfl ((own_below HOR.out HB1.out (Nat.le_refl _)).alloc _) ⟨wr.heap.size + 1, 0, none⟩ 1 1 [.float .f64 QW, .slice (some ⟨wr.heap.size, 0, none⟩) 1 1] rfl rfl (cell_two_new _ _ _ _ _ (by simp)) (Fb_two _ _ rfl) (by unfold maxLen; omega) (by omega) (by have := HBI.out.size; have := HBR.out.size; simp; omega) ?_; intro v4 w4 hown hgrow _ hat)
                rw [← HQW.out] at hown
                have hsn := FewR.snoc (P := P) (cs := hot 0) H1.out H2.out HOR.out HF.out HW.out HM.out HBR.out hB (by omega) (by omega) (nice_hot (by omega)) HB1.out (Sl_of_own HONE.out) (fun q hq => ⟨by have := HONE.out.lt q hq; have := HBI.out.size; omega, (HONE.out.lt q hq).2⟩) hgrow hat hown
                have HSN := hid hsn
                clear hsn hown hgrow hat
                go_wp2_with fail
                go_roundw
                case rel => exact ⟨k + 1, Q, x + 5, by omega, by have := HX.out; omega, by go_num, by omega, by omega, by rw [HQW.out], HSN.out⟩
                case measure => have := HX.out; simp [intOf]; omega
            · rw [decide_eq_true (show 0 < S by omega)] at hgt
              rw [decide_eq_false hz] at heq
              obtain ⟨SW, hSW⟩ : ∃ SW, intW (S : Int) = SW := ⟨_, rfl⟩
              rw [hSW] at hgt heq ⊢
              have HSW := hid hSW
              clear hSW
              obtain ⟨gc, cc', e9, hcc', hgc⟩ := own_some HOI.out (by omega)
              injection e9 with e91 e92 e93
              subst e91 e93
              have ho0 := HOI.out
              rw [← midC_zero wa wb wc wd S] at ho0
              have HO0 := hid ho0
              clear ho0
              go_wp2_with fail
              go_loopw [10] (fun kk wi => ∃ t : Nat, t ≤ 4 ∧ kk = .int .i64 (t : Int) ∧ wi.ownsRow wo.heap.size 33 1 (.slice (some ⟨gc, 0, none⟩) 4 cc) 4 (Fb (midC wa wb wc wd S t)) ∧ Below wo.heap.size wo wi) (fun kk _ => 4 - (intOf kk).toNat)
              case atStart => exact ⟨0, by omega, rfl, HO0.out, HBI.out⟩
              case round =>
                obtain ⟨t, ht, rfl, hoT, hbT⟩ := hrel
                have HOT := hid hoT
                have HBT := hid hbT
                clear hoT hbT
                by_cases hlt2 : t < 4
                · have hlt2' : (t : Int) < 4 := by omega
                  have hlt2d : decide ((t : Int) < 4) = true := decide_eq_true hlt2'
                  obtain ⟨q, hq, hset⟩ := midC_step (S := S) hlt2 HA8.out HB8.out HC8.out HD8.out HS.out (by omega)
                  rw [HSW.out] at hq
                  have hquo := quo_run hq
                  have hcl := HOT.out.cellAt t (by omega)
                  rw [Fb_get (by exact hlt2)] at hcl
                  have hfr : wr.frozen? ⟨gc, t, none⟩ = false := HOT.out.frozenAt t
                  have hst := (HOT.out.stored t (.float .f64 q)).1
                  rw [Fb_set, hset] at hst
                  have HST := hid hst
                  clear hst hset hq
                  generalize at0 (midC wa wb wc wd S t) t = A0 at hquo hcl
                  go_wp2_with fail
                  go_roundw
                  case rel => exact ⟨t + 1, by omega, by go_num, HST.out, HBT.out.setCell (by omega) _⟩
                  case measure => simp [intOf]; omega
                · have hlt2' : ¬ (t : Int) < 4 := by omega
                  have hlt2d : decide ((t : Int) < 4) = false := decide_eq_false hlt2'
                  have e4 : t = 4 := by omega
                  have hoF := HOT.out
                  rw [e4, midC_all] at hoF
                  have HOF := hid hoF
                  have HNICE := hid (nice_parts HA8.out HB8.out HC8.out HD8.out HS.out (by omega))
                  clear hoF e4
                  go_wp2_with (at_builtin; refine wpList_append_own_at _ rfl _ _ 22 rfl w.heap.size 48 i0 (.agg #[.float .f64 0, .slice none 0 0]) 2 32 Try.underlying22 HI.out hz0 hz1 HZ.out rfl (by decide) _ k (Cl cps) rfl ((own_below HOR.out HBT.out (Nat.le_refl _)).alloc _) ⟨wr.heap.size, 0, none⟩ 1 1 [.float .f64 QW, .slice (some ⟨gc, 0, none⟩) 4 cc] rfl rfl (cell_two_new _ _ _ _ _ rfl) (Fb_two _ _ rfl) (by unfold maxLen; omega) (by omega) (by have := HBT.out.size; have := HBR.out.size; simp; omega) ?_; intro v4 w4 hown hgrow _ hat)
                  rw [← HQW.out] at hown
                  have hsn := FewR.snoc (P := P) H1.out H2.out HOR.out HF.out HW.out HM.out HBR.out hB (by omega) (by omega) HNICE.out HBT.out (Sl_of_own HOF.out) (fun q hq => HOF.out.lt q hq) hgrow hat hown
                  have HSN := hid hsn
                  clear hsn hown hgrow hat
                  go_wp2_with fail
                  go_roundw
                  case rel => exact ⟨k + 1, Q, x + 5, by omega, by have := HX.out; omega, by go_num, by omega, by omega, by rw [HQW.out], HSN.out⟩
                  case measure => have := HX.out; simp [intOf]; omega
      · have hB' : ¬ (k : Int) < 3 := by omega
        have hBd : decide ((k : Int) < 3) = false := decide_eq_false hB'
        by_cases hk0 : k = 0
        · omega
        · have hkb : ((k : Int) == 0) = false := by rw [beq_eq_false_iff_ne]; omega
          have hkd : decide ((k : Int) = 0) = false := decide_eq_false (by omega)
          go_wp2_with fail
          go_ret
          obtain ⟨v', fs', ps', rfl, hr1, hr2, hr⟩ := HFR.out.done (by omega)
          exact ⟨_, rfl, fs', hr1, ⟨ps', hr2⟩, hr⟩
    · have hA' : ¬ ((x + 4 : Nat) : Int) < (n : Int) := by omega
      have hAd : decide (((x + 4 : Nat) : Int) < (n : Int)) = false := decide_eq_false hA'
      by_cases hk0 : k = 0
      · subst hk0
        have hone := own_of_cells (base := wo.heap.size) (n := 2) (cap := 2) (xs := Fb [0, 4607182418800017408]) (heap_alloc_new wo (.cells #[.float .f64 0, .float .f64 4607182418800017408] 33)) (Nat.le_refl _) (Nat.le_refl _) (by unfold maxLen; omega) rfl rfl
        have hb1 := (Below.refl wo.heap.size wo).alloc (Nat.le_refl _) (.cells #[.float .f64 0, .float .f64 4607182418800017408] 33)
        have HONE := hid hone
        have HB1 := hid hb1
        obtain ⟨PW, hPW⟩ : ∃ PW, intW (P : Int) = PW := ⟨_, rfl⟩
        rw [hPW]
        have HPW := hid hPW
        clear hone hb1 hPW
        go_wp2_with (at_builtin; refine wpList_append_own_at _ rfl _ _ 22 rfl w.heap.size 48 i0 (.agg #[.float .f64 0, .slice none 0 0]) 2 32 Try.underlying22 HI.out hz0 hz1 HZ.out rfl (by decide) _ 0 (Cl cps) rfl ((own_below HOR.out HB1.out (Nat.le_refl _)).alloc _) ⟨wo.heap.size + 1, 0, none⟩ 1 1 [.float .f64 PW, .slice (some ⟨wo.heap.size, 0, none⟩) 2 2] rfl rfl (cell_two_new _ _ _ _ _ (by simp)) (Fb_two _ _ rfl) (by unfold maxLen; omega) (by omega) (by have := HBR.out.size; simp; omega) ?_; intro v4 w4 hown hgrow _ hat)
        rw [← HPW.out] at hown
        have hsn := FewR.snoc (P := P) (Q := P) (cs := hot 1) H1.out H2.out HOR.out HF.out HW.out HM.out HBR.out (by omega) (Nat.le_refl _) hP (nice_hot (by omega)) HB1.out (Sl_of_own HONE.out) (fun q hq => HONE.out.lt q hq) hgrow hat hown
        have HSN := hid hsn
        clear hsn hown hgrow hat
        go_wp2_with fail
        go_ret
        obtain ⟨v', fs', ps', rfl, hr1, hr2, hr⟩ := HSN.out.done (Nat.le_refl _)
        exact ⟨_, rfl, fs', hr1, ⟨ps', hr2⟩, hr⟩
      · have hkb : ((k : Int) == 0) = false := by rw [beq_eq_false_iff_ne]; omega
        have hkd : decide ((k : Int) = 0) = false := decide_eq_false (by omega)
        go_wp2_with fail
        go_ret
        obtain ⟨v', fs', ps', rfl, hr1, hr2, hr⟩ := HFR.out.done (by omega)
        exact ⟨_, rfl, fs', hr1, ⟨ps', hr2⟩, hr⟩
end Go.Proofs.Ytnaogcpcaabbhaa
