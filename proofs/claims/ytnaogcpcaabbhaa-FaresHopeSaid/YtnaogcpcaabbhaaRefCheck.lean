/- The document's Check. -/
import Derived.Test.YtnaogcpcaabbhaaValues
import Derived.Test.YtnaogcpcaabbhaaUnits
import Derived.Deep.QuietTactic
import Derived.BigQuiet
namespace Go.Proofs.Ytnaogcpcaabbhaa
open Go.RowKit FloatPlain

theorem within_not {P hi : Nat} (h : P < 18446744073709551616) (hh : FloatPlain.Fin hi) : withinB P 0 hi = !((FloatKind.f64.format.order P P != some .eq) || (FloatKind.f64.format.order P 0 == some .lt) || (FloatKind.f64.format.order P hi == some .gt)) := by
  show withinB P 0 hi = !((Ieee.double.order P P != some .eq) || (Ieee.double.order P 0 == some .lt) || (Ieee.double.order P hi == some .gt))
  have hz := zero_pos.fin
  unfold withinB
  rcases three P h with f | f | f
  · have hs : (Ieee.double.order P P != some .eq) = false := self_eq f
    rw [hs, cmp_gt f hz, cmp_eq f hz, cmp_lt f hh, cmp_eq f hh, cmp_lt f hz, cmp_gt f hh, Bool.eq_iff_iff]
    simp only [Bool.and_eq_true, Bool.or_eq_true, Bool.not_eq_true', decide_eq_true_eq, Bool.or_eq_false_iff, decide_eq_false_iff_not, Bool.false_or]
    omega
  · have hs : (Ieee.double.order P P != some .eq) = false := self_inf f
    rw [hs, order_inf _ _ f hz, order_inf _ _ f hh]
    cases FloatPlain.neg P <;> rfl
  · rw [order_nan _ _ f, order_nan _ _ f, order_nan _ _ f]; rfl

theorem one_fin : FloatPlain.Fin 4607182418800017408 := one_pos.fin

set_option maxRecDepth 8000 in
set_option maxHeartbeats 2000000 in
theorem chances_any (v : Value) (cs : List Nat) (w : World) (hv : Sl w v (Fb cs)) (hw : ∀ j, at0 cs j < 18446744073709551616) :
    Calls Try.prog 43 #[v] w fun e w' => ∃ b, e = .returned (.bool b) ∧ (b = true ↔ Chances cs) ∧ Below w.heap.size w w' := by
  obtain ⟨a, c, rfl, hc, hcm, _⟩ := Sl_partsF hv
  obtain ⟨m, hm⟩ : ∃ m, cs.length = m := ⟨_, rfl⟩
  have HV := hid hv
  have HM := hid hm
  have HQ := hid hw
  rw [hm] at hc HV ⊢
  unfold maxLen at hcm
  clear hv hm hw
  by_cases h1 : m < 1
  · have HN := hid (show ¬ Chances cs from fun h => by have := h.1.1; have := HM.out; omega)
    have h1' : (m : Int) < 1 := by omega
    clear h1
    go_enter Try.func43, Try.ntmps43
    go_wp2_with fail
    go_ret
    exact ⟨_, rfl, ⟨fun h => absurd h Bool.false_ne_true, fun h => absurd h HN.out⟩, Below.refl _ _⟩
  by_cases h2 : 256 < m
  · have HN := hid (show ¬ Chances cs from fun h => by have := h.1.2.1; have := HM.out; omega)
    have h2' : (256 : Int) < (m : Int) := by omega
    have h1' : (1 : Int) ≤ (m : Int) := by omega
    clear h1 h2
    go_enter Try.func43, Try.ntmps43
    go_wp2_with fail
    go_ret
    exact ⟨_, rfl, ⟨fun h => absurd h Bool.false_ne_true, fun h => absurd h HN.out⟩, Below.refl _ _⟩
  have h2' : (m : Int) ≤ 256 := by omega
  have h1' : (1 : Int) ≤ (m : Int) := by omega
  go_enter Try.func43, Try.ntmps43
  go_wp2_with fail
  go_loopw [3, 4] (fun s i wr => ∃ j : Nat, j ≤ m ∧ i = .int .i64 j ∧ s = .float .f64 (sumK cs j) ∧ (∀ t, t < j → Lik (at0 cs t)) ∧ Below w.heap.size w wr) (fun _ i _ => m - (intOf i).toNat)
  case atStart => exact ⟨0, by omega, rfl, rfl, fun t h => absurd h (by omega), Below.refl _ _⟩
  case round =>
    obtain ⟨j, hj, rfl, rfl, hLk, hb⟩ := hrel
    have HLK := hid hLk
    have HB := hid hb
    clear hLk hb
    by_cases hlt : j < m
    · have hlt' : (j : Int) < (m : Int) := by omega
      obtain ⟨b3, o3, rfl, _, q3⟩ := Sl_cellF (k := j) (Sl_below HV.out HB.out (Nat.le_refl _)) (by rw [HM.out]; exact hlt)
      have hwj := HQ.out j
      have hwn := within_not hwj one_fin
      have hil := within_lik hwj
      rw [hwn] at hil
      obtain ⟨b1, hb1⟩ : ∃ b, (FloatKind.f64.format.order (at0 cs j) (at0 cs j) != some .eq) = b := ⟨_, rfl⟩
      obtain ⟨b2, hb2⟩ : ∃ b, (FloatKind.f64.format.order (at0 cs j) 0 == some .lt) = b := ⟨_, rfl⟩
      obtain ⟨b4, hb4⟩ : ∃ b, (FloatKind.f64.format.order (at0 cs j) 4607182418800017408 == some .gt) = b := ⟨_, rfl⟩
      rw [hb1, hb2, hb4] at hil
      by_cases hbad : (b1 || b2 || b4) = true
      · have HN := hid (show ¬ Chances cs from fun h => by
          have h9 := hil.2 (h.1.2.2 j (by rw [HM.out]; exact hlt))
          rw [hbad] at h9; cases h9)
        generalize sumK cs j = S0
        generalize at0 cs j = A at hb1 hb2 hb4 q3
        clear hil hwn hwj
        cases b1 <;> cases b2 <;> cases b4
        all_goals first
          | (exact absurd hbad (by decide))
          | (clear hbad
             go_wp2_with fail
             go_big_quiet (fail)
             go_wp2_with fail
             go_ret
             exact ⟨_, rfl, ⟨fun h => absurd h Bool.false_ne_true, fun h => absurd h HN.out⟩, below_drewN HB.out _⟩)
      · have hok : (b1 || b2 || b4) = false := by simpa using hbad
        have hlj : Lik (at0 cs j) := hil.1 (by rw [hok]; rfl)
        obtain ⟨rfl, rfl, rfl⟩ : b1 = false ∧ b2 = false ∧ b4 = false := by
          cases b1 <;> cases b2 <;> cases b4 <;> simp at hok ⊢
        have hL : ∀ t, t < j + 1 → Lik (at0 cs t) := fun t ht => by
          by_cases e : t = j
          · subst e; exact hlj
          · exact HLK.out t (by omega)
        have hadd := add_run (sum_step (cs := cs) (k := j) (by omega) (fun t ht => hL t (by omega)))
        have HL2 := hid hL
        obtain ⟨S, hS⟩ : ∃ S, sumK cs (j + 1) = S := ⟨_, rfl⟩
        rw [hS] at hadd
        have HS := hid hS
        clear hS hL hlj hil hwn hwj hbad hok
        generalize sumK cs j = S0 at hadd ⊢
        generalize at0 cs j = A at hadd q3 hb1 hb2 hb4
        have hq3 : ∀ n, (wr.drewN n).cell? ⟨b3, o3 + j, none⟩ = some (.float .f64 A) := fun n => q3
        go_wp2_with fail
        go_big_quiet (fail)
        go_wp2_with fail
        go_roundw
        case rel => exact ⟨j + 1, by omega, by go_num, by rw [HS.out], HL2.out, below_drewN HB.out _⟩
        case measure => simp [intOf]; omega
    · obtain rfl : j = m := by omega
      obtain ⟨g1, hg1⟩ : ∃ b, (FloatKind.f64.format.order (sumK cs j) 4607182409792818153 == some .gt || FloatKind.f64.format.order (sumK cs j) 4607182409792818153 == some .eq) = b := ⟨_, rfl⟩
      obtain ⟨g2, hg2⟩ : ∃ b, (FloatKind.f64.format.order (sumK cs j) 4607182423303617035 == some .lt || FloatKind.f64.format.order (sumK cs j) 4607182423303617035 == some .eq) = b := ⟨_, rfl⟩
      have hch : Chances cs ↔ (g1 && g2) = true := by
        have e : withinB (sumK cs cs.length) 4607182409792818153 4607182423303617035 = (g1 && g2) := by rw [HM.out]; subst hg1 hg2; rfl
        constructor
        · intro h; rw [← e]; exact h.2
        · intro h; exact ⟨⟨by rw [HM.out]; omega, by rw [HM.out]; omega, fun t ht => HLK.out t (by rw [← HM.out]; exact ht)⟩, by rw [e]; exact h⟩
      have HCH := hid hch
      generalize sumK cs j = S0 at hg1 hg2
      clear hch
      cases g1 <;> cases g2
      all_goals
        go_wp2_with fail
        go_ret
        exact ⟨_, rfl, HCH.out.symm, HB.out⟩

/-- the price's tests, as the document says them -/
theorem elem_tests {fs : List (Nat × List Nat)} (hw : Wf fs) (k : Nat) (hE : ∀ j, j < k → Elem fs j) :
    withinB (prA fs k) 0 (lastP fs k) = !((FloatKind.f64.format.order (prA fs k) (prA fs k) != some .eq) || (FloatKind.f64.format.order (prA fs k) 0 == some .lt) || (FloatKind.f64.format.order (prA fs k) 4787326403894837248 == some .gt) || (decide (0 < k) && (FloatKind.f64.format.order (prA fs k) (prA fs (k - 1)) == some .gt))) := by
  have hd := last_dear hw k hE
  rw [within_not (hw.1 k) hd.1.fin]
  by_cases h0 : k = 0
  · subst h0
    have e : lastP fs 0 = 4787326403894837248 := rfl
    rw [e]
    simp
  · have e : lastP fs k = prA fs (k - 1) := by unfold lastP; rw [if_neg h0]
    rw [e] at hd ⊢
    have hk : decide (0 < k) = true := decide_eq_true (by omega)
    rw [hk, Bool.true_and]
    have himp : (FloatKind.f64.format.order (prA fs k) 4787326403894837248 == some .gt) = true → ((FloatKind.f64.format.order (prA fs k) (prA fs k) != some .eq) || (FloatKind.f64.format.order (prA fs k) 0 == some .lt) || (FloatKind.f64.format.order (prA fs k) (prA fs (k - 1)) == some .gt)) = true := by
      intro h
      rcases three _ (hw.1 k) with f | f | f
      · have h1 : (Ieee.double.order (prA fs k) 4787326403894837248 == some .gt) = true := h
        rw [cmp_gt f two40.1.fin, decide_eq_true_eq] at h1
        have h2 : (FloatKind.f64.format.order (prA fs k) (prA fs (k - 1)) == some .gt) = true := by
          show (Ieee.double.order (prA fs k) (prA fs (k - 1)) == some .gt) = true
          rw [cmp_gt f hd.1.fin, decide_eq_true_eq]
          have h3 := hd.1.num
          have h4 := hd.2
          have h5 : num 4787326403894837248 = val (two 40) := by
            have e5 : (4787326403894837248 : Nat) = two 40 := by decide
            rw [e5, (two_pos (n := 40) (by omega)).num]
          omega
        rw [h2, Bool.or_true]
      · have h1 : (Ieee.double.order (prA fs k) 4787326403894837248 == some .gt) = true := h
        rw [order_inf _ _ f two40.1.fin] at h1
        have h2 : (FloatKind.f64.format.order (prA fs k) (prA fs (k - 1)) == some .gt) = true := by
          show (Ieee.double.order (prA fs k) (prA fs (k - 1)) == some .gt) = true
          rw [order_inf _ _ f hd.1.fin]
          exact h1
        rw [h2, Bool.or_true]
      · have h2 : (FloatKind.f64.format.order (prA fs k) (prA fs k) != some .eq) = true := self_nan f
        rw [h2]; simp
    generalize (FloatKind.f64.format.order (prA fs k) (prA fs k) != some .eq) = x1 at himp ⊢
    generalize (FloatKind.f64.format.order (prA fs k) 0 == some .lt) = x2 at himp ⊢
    generalize (FloatKind.f64.format.order (prA fs k) 4787326403894837248 == some .gt) = x3 at himp ⊢
    generalize (FloatKind.f64.format.order (prA fs k) (prA fs (k - 1)) == some .gt) = x4 at himp ⊢
    cases x1 <;> cases x2 <;> cases x3 <;> cases x4 <;> simp_all

set_option maxRecDepth 8000 in
set_option maxHeartbeats 4000000 in
theorem refCheck_any (v : Value) (fs : List (Nat × List Nat)) (w : World) (hv : Fl w v fs) (hwf : Wf fs) : Calls Try.prog 19 #[v] w fun e w' => e = .returned (.int .i64 (chk fs)) ∧ Below w.heap.size w w' := by
  obtain ⟨a, c, rfl, hc, hcm, hnone⟩ := Fl_parts hv
  obtain ⟨n, hn⟩ : ∃ n, fs.length = n := ⟨_, rfl⟩
  have HV := hid hv
  have HN := hid hn
  have HWF := hid hwf
  rw [hn] at hc HV ⊢
  unfold maxLen at hcm
  clear hv hn hwf
  by_cases h1 : n < 1
  · have hbad := hid (chk_bad (fs := fs) (fun h => by have := h.1; have := HN.out; omega))
    have h1' : (n : Int) < 1 := by omega
    clear h1
    go_enter Try.func19, Try.ntmps19
    go_wp2_with fail
    go_ret
    rw [hbad.out]
    exact ⟨rfl, Below.refl _ _⟩
  by_cases h2 : 16 < n
  · have hbad := hid (chk_bad (fs := fs) (fun h => by have := h.2.1; have := HN.out; omega))
    have h2' : (16 : Int) < (n : Int) := by omega
    have h1' : (1 : Int) ≤ (n : Int) := by omega
    clear h1 h2
    go_enter Try.func19, Try.ntmps19
    go_wp2_with fail
    go_ret
    rw [hbad.out]
    exact ⟨rfl, Below.refl _ _⟩
  have h2' : (n : Int) ≤ 16 := by omega
  have h1' : (1 : Int) ≤ (n : Int) := by omega
  go_enter Try.func19, Try.ntmps19
  go_wp2_with fail
  go_loopw [3] (fun i wr => ∃ k : Nat, k ≤ n ∧ i = .int .i64 k ∧ Below w.heap.size w wr ∧ ∀ j, j < k → Elem fs j) (fun i _ => n - (intOf i).toNat)
  case atStart => exact ⟨0, by omega, rfl, Below.refl _ _, fun j h => absurd h (by omega)⟩
  case round =>
    obtain ⟨k, hk, rfl, hb, hE⟩ := hrel
    have HB := hid hb
    have HE := hid hE
    clear hb hE
    by_cases hlt : k < n
    · have hlt' : (k : Int) < (n : Int) := by omega
      obtain ⟨b, off, cv, rfl, hbl, q1, q2, q3⟩ := Fl_cell (k := k) (Fl_below HV.out HB.out (Nat.le_refl _)) (by rw [HN.out]; exact hlt)
      have HC := hid q3
      obtain ⟨ca, cc, rfl, hcc, hccm, hcn⟩ := Sl_partsF HC.out
      clear q3
      have htest := elem_tests HWF.out k HE.out
      have bad : ¬ Elem fs k → chk fs = 260 := fun h => chk_bad fun hg => h (hg.2.2 k (by rw [HN.out]; exact hlt))
      have HBAD := hid bad
      have HCW := hid (HWF.out.2 k)
      clear bad
      obtain ⟨x1, hx1⟩ : ∃ x, (FloatKind.f64.format.order (prA fs k) (prA fs k) != some .eq) = x := ⟨_, rfl⟩
      obtain ⟨x2, hx2⟩ : ∃ x, (FloatKind.f64.format.order (prA fs k) 0 == some .lt) = x := ⟨_, rfl⟩
      obtain ⟨x3, hx3⟩ : ∃ x, (FloatKind.f64.format.order (prA fs k) 4787326403894837248 == some .gt) = x := ⟨_, rfl⟩
      obtain ⟨x4, hx4⟩ : ∃ x, (FloatKind.f64.format.order (prA fs k) (prA fs (k - 1)) == some .gt) = x := ⟨_, rfl⟩
      rw [hx1, hx2, hx3, hx4] at htest
      have HT := hid htest
      clear htest
      by_cases hpr : (x1 || x2 || x3) = true
      · have hbad := hid (HBAD.out fun h => by
          have h9 := HT.out.symm.trans h.1
          rw [hpr, Bool.true_or] at h9; cases h9)
        generalize prA fs k = P at q1 hx1 hx2 hx3 hx4
        clear hx4
        cases x1 <;> cases x2 <;> cases x3
        all_goals first
          | (exact absurd hpr (by decide))
          | (clear hpr
             go_wp2_with fail
             go_ret
             rw [hbad.out]
             exact ⟨rfl, HB.out⟩)
      obtain ⟨rfl, rfl, rfl⟩ : x1 = false ∧ x2 = false ∧ x3 = false := by
        cases x1 <;> cases x2 <;> cases x3 <;> simp at hpr ⊢
      clear hpr
      by_cases hk0 : 0 < k
      · have hkp : (0 : Int) < (k : Int) := by omega
        have hkd : decide (0 < k) = true := decide_eq_true hk0
        have hw1 : IntKind.i64.wrap ((k : Int) - 1) = ((k - 1 : Nat) : Int) := by rw [IntKind.wrap_i64]; omega
        have hlt1 : ((k - 1 : Nat) : Int) < (n : Int) := by omega
        obtain ⟨b', off', cv', he', _, q1', _⟩ := Fl_cell (k := k - 1) (Fl_below HV.out HB.out (Nat.le_refl _)) (by rw [HN.out]; omega)
        injection he' with he'
        injection he' with he1 he2
        subst he1 he2
        cases x4 with
        | true =>
          have hbad := hid (HBAD.out fun h => by
            have h9 := HT.out.symm.trans h.1
            rw [hkd] at h9; cases h9)
          generalize prA fs k = P at q1 hx1 hx2 hx3 hx4
          generalize prA fs (k - 1) = P' at q1' hx4
          go_wp2_with fail
          go_ret
          rw [hbad.out]
          exact ⟨rfl, HB.out⟩
        | false =>
          have HP := hid (show withinB (prA fs k) 0 (lastP fs k) = true by rw [HT.out, hkd]; rfl)
          generalize prA fs k = P at q1 hx1 hx2 hx3 hx4
          generalize prA fs (k - 1) = P' at q1' hx4
          go_wp2_with fail
          refine (chances_any _ (csA fs k) _ HC.out HCW.out).mono ?_
          rintro e w5 ⟨bc, rfl, hbc, hb5⟩
          have HB5 := hid (HB.out.trans (hb5.mono HB.out.size))
          clear hb5
          cases bc with
          | true =>
            have hel : Elem fs k := ⟨HP.out, hbc.1 rfl⟩
            have HEL := hid hel
            clear hel hbc
            go_wp2_with fail
            go_roundw
            case rel =>
              refine ⟨k + 1, by omega, by go_num, HB5.out, fun t ht => ?_⟩
              by_cases e : t = k
              · subst e; exact HEL.out
              · exact HE.out t (by omega)
            case measure => simp [intOf]; omega
          | false =>
            have hbad := hid (HBAD.out fun h => absurd (hbc.2 h.2) Bool.false_ne_true)
            clear hbc
            go_wp2_with fail
            go_ret
            rw [hbad.out]
            exact ⟨rfl, HB5.out⟩
      · have hkp : ¬ (0 : Int) < (k : Int) := by omega
        have hkd : decide (0 < k) = false := decide_eq_false hk0
        have HP := hid (show withinB (prA fs k) 0 (lastP fs k) = true by rw [HT.out, hkd]; rfl)
        generalize prA fs k = P at q1 hx1 hx2 hx3
        clear hx4
        go_wp2_with fail
        refine (chances_any _ (csA fs k) _ HC.out HCW.out).mono ?_
        rintro e w5 ⟨bc, rfl, hbc, hb5⟩
        have HB5 := hid (HB.out.trans (hb5.mono HB.out.size))
        clear hb5
        cases bc with
        | true =>
          have hel : Elem fs k := ⟨HP.out, hbc.1 rfl⟩
          have HEL := hid hel
          clear hel hbc
          go_wp2_with fail
          go_roundw
          case rel =>
            refine ⟨k + 1, by omega, by go_num, HB5.out, fun t ht => ?_⟩
            by_cases e : t = k
            · subst e; exact HEL.out
            · exact HE.out t (by omega)
          case measure => simp [intOf]; omega
        | false =>
          have hbad := hid (HBAD.out fun h => absurd (hbc.2 h.2) Bool.false_ne_true)
          clear hbc
          go_wp2_with fail
          go_ret
          rw [hbad.out]
          exact ⟨rfl, HB5.out⟩
    · obtain rfl : k = n := by omega
      have hgood := hid (chk_good (fs := fs) ⟨by rw [HN.out]; omega, by rw [HN.out]; omega, fun j hj => HE.out j (by rw [← HN.out]; exact hj)⟩)
      go_wp2_with fail
      go_ret
      rw [hgood.out]
      exact ⟨rfl, HB.out⟩
end Go.Proofs.Ytnaogcpcaabbhaa
