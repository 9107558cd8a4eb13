/- hope: what one hopes for, going down. -/
import Derived.Test.YtnaogcpcaabbhaaRefNext
import Derived.Test.YtnaogcpcaabbhaaHopeTable
import Derived.Lib.QuietBelow
namespace Go.Proofs.Ytnaogcpcaabbhaa
open Go.RowKit FloatPlain

/-- the best of the first u numbers of people, 0 at the start -/
def bestH (P : Nat) (q : List Nat) (x : Nat) : Nat → Nat
  | 0 => 0
  | u + 1 => max (bestH P q x u) (vK P q x u)
theorem bestH_is (P : Nat) (q : List Nat) (x : Nat) : ∀ k, bestH P q x (min k x + 1) = bestK P q x k := by
  intro k
  induction k with
  | zero =>
    rw [Nat.zero_min]
    show max 0 (vK P q x 0) = vK P q x 0
    exact Nat.max_eq_right (Nat.zero_le _)
  | succ k ih =>
    by_cases h : k + 1 ≤ x
    · rw [Nat.min_eq_left h, bestK_step h]
      rw [Nat.min_eq_left (by omega)] at ih
      show max (bestH P q x (k + 1)) (vK P q x (k + 1)) = _
      rw [ih]
    · rw [bestK_stay h, ← ih, Nat.min_eq_right (by omega), Nat.min_eq_right (by omega)]
theorem bestH_pos {P : Nat} {q : List Nat} {x : Nat} (h : ∀ u, u ≤ 256 → Pos (vK P q x u)) : ∀ u, u ≤ 257 → Pos (bestH P q x u) := by
  intro u
  induction u with
  | zero => intro _; exact zero_pos
  | succ u ih =>
    intro hu
    show Pos (max _ _)
    rcases Nat.le_total (bestH P q x u) (vK P q x u) with c | c
    · rw [Nat.max_eq_right c]; exact h u (by omega)
    · rw [Nat.max_eq_left c]; exact ih (by omega)

set_option maxRecDepth 8000 in
set_option maxHeartbeats 8000000 in
theorem hope_any (fs : List (Nat × List Nat)) (s : Nat) (hwf : Wf fs) (hg : GoodF fs) (hs : s ≤ 1024) : ∀ j, j ≤ fs.length → ∀ x, x ≤ s → ∀ (v : Value) (w : World), Fl w v fs →
    Calls Try.prog 29 #[v, .int .i64 j, .int .i64 x] w fun e w' => e = .returned (.float .f64 (at0 (val0 fs s j) x)) ∧ Below w.heap.size w w' := by
  intro j
  induction j with
  | zero =>
    intro _ x hx v w hv
    have e : at0 (val0 fs s 0) x = 0 := at0_rep (s + 1) x
    rw [e]
    clear hv hwf hg e
    have hz : ((0 : Nat) : Int) = 0 := rfl
    rw [hz]
    go_enter Try.func29, Try.ntmps29
    go_wp2_with fail
    go_ret
    exact ⟨rfl, Below.refl _ _⟩
  | succ j ih =>
    intro hj x hx v w hv
    have HIH := hid (ih (by omega))
    obtain ⟨hok, hlik⟩ := val0_ok hwf hg s j (by omega)
    have HOK := hid hok
    have HLIK := hid hlik
    obtain ⟨a, c, rfl, hc, hcm, hnone⟩ := Fl_parts hv
    obtain ⟨n, hn⟩ : ∃ n, fs.length = n := ⟨_, rfl⟩
    have HN := hid hn
    have HV := hid hv
    obtain ⟨b, off, cv, rfl, hbl, q1, q2, q3⟩ := Fl_cell (k := j) hv (by omega)
    have HC := hid q3
    obtain ⟨ca, cc, rfl, hcc, hccm, hcn⟩ := Sl_partsF HC.out
    have hnext := val0_next fs s j (by omega)
    obtain ⟨m, hm⟩ : ∃ m, (csA fs j).length = m := ⟨_, rfl⟩
    have hm256 : m ≤ 256 := by rw [← hm]; exact hlik.2.1
    have hfin : at0 (val0 fs s (j + 1)) x = outK (prA fs j) (val0 fs s j) (csA fs j) x m := by
      rw [hnext, nextV_at0 _ _ _ (by rw [val0_len]; omega), hm]
    rw [hfin]
    rw [hm] at hcc hcn HC q2
    have HM := hid hm
    rw [hn] at hc HV hj ⊢
    obtain ⟨P, hP⟩ : ∃ P, prA fs j = P := ⟨_, rfl⟩
    rw [hP] at q1 HOK ⊢
    unfold maxLen at hcm hccm
    have hjn : (j : Int) < (n : Int) := by omega
    have hwj : IntKind.i64.wrap (((j + 1 : Nat) : Int) - 1) = (j : Int) := by rw [IntKind.wrap_i64]; omega
    have hj0 : ¬ (((j + 1 : Nat) : Int) = 0) := by omega
    have hjb : (((j + 1 : Nat) : Int) == 0) = false := by rw [beq_eq_false_iff_ne]; exact hj0
    generalize ((j + 1 : Nat) : Int) = J1 at hwj hj0 hjb ⊢
    clear ih hv hwf hg hok hlik q3 hnext hm hn hP hfin
    have hstf := store_run
    go_enter Try.func29, Try.ntmps29
    go_wp2_with fail
    have hs0 : (w.alloc (.cells #[.float .f64 P, .slice ca m cc] 48)).heap.size = w.heap.size + 1 := by simp
    have hb0 := (Below.refl w.heap.size w).alloc (Nat.le_refl _) (.cells #[.float .f64 P, .slice ca m cc] 48)
    have hc0 : (w.alloc (.cells #[.float .f64 P, .slice ca m cc] 48)).cell? ⟨w.heap.size, 0, none⟩ = some (.float .f64 P) := World.cell?_alloc_new w _ _ 0
    have hc1 : (w.alloc (.cells #[.float .f64 P, .slice ca m cc] 48)).cell? ⟨w.heap.size, 1, none⟩ = some (.slice ca m cc) := World.cell?_alloc_new w _ _ 1
    obtain ⟨w0, hw0⟩ : ∃ w0, w.alloc (.cells #[.float .f64 P, .slice ca m cc] 48) = w0 := ⟨_, rfl⟩
    rw [hw0] at hs0 hb0 hc0 hc1 ⊢
    have HB0 := hid hb0
    have HC0 := hid hc0
    have HC1 := hid hc1
    have HS0 := hid hs0
    clear hs0 hb0 hc0 hc1 hw0 q1 q2
    go_loopw [8, 9] (fun sm i wr => ∃ k : Nat, k ≤ m ∧ i = .int .i64 k ∧ sm = .float .f64 (outK P (val0 fs s j) (csA fs j) x k) ∧ Below (w.heap.size + 1) w0 wr) (fun _ i _ => m - (intOf i).toNat)
    case atStart => exact ⟨0, by omega, rfl, rfl, Below.refl _ _⟩
    case round =>
      obtain ⟨k, hk, rfl, rfl, hbR⟩ := hrel
      have HBR := hid hbR
      clear hbR
      have hcr1 : wr.cell? ⟨w.heap.size, 1, none⟩ = some (.slice ca m cc) := by rw [HBR.out.cell (p := ⟨w.heap.size, 1, none⟩) (Nat.lt_succ_self _)]; exact HC1.out
      by_cases hlt : k < m
      · have hlt' : (k : Int) < (m : Int) := by omega
        go_wp2_with fail
        go_loopw [10, 11] (fun be u wi => ∃ t : Nat, t ≤ min k x + 1 ∧ u = .int .i64 t ∧ be = .float .f64 (bestH P (val0 fs s j) x t) ∧ Below (w.heap.size + 1) w0 wi) (fun _ u _ => min k x + 1 - (intOf u).toNat)
        case atStart => exact ⟨0, by omega, rfl, rfl, HBR.out⟩
        case round =>
          obtain ⟨t, ht, rfl, rfl, hbI⟩ := hrel
          have HBI := hid hbI
          clear hbI hcr1
          by_cases htk : t ≤ min k x
          · have htk1 : (t : Int) ≤ (k : Int) := by omega
            have htx1 : (t : Int) ≤ (x : Int) := by omega
            have ht0 : (0 : Int) ≤ (t : Int) := by omega
            have hwx : IntKind.i64.wrap ((x : Int) - (t : Int)) = ((x - t : Nat) : Int) := by rw [IntKind.wrap_i64]; omega
            have hwt : IntKind.i64.wrap ((t : Int) + 1) = ((t + 1 : Nat) : Int) := by rw [IntKind.wrap_i64]; omega
            have hci0 : wr.cell? ⟨w.heap.size, 0, none⟩ = some (.float .f64 P) := by rw [HBI.out.cell (p := ⟨w.heap.size, 0, none⟩) (Nat.lt_succ_self _)]; exact HC0.out
            have hci := cell_regrown hci0
            have HFl := hid (Fl_below (Fl_below HV.out HB0.out (Nat.le_refl _)) HBI.out (by rw [HS0.out]; exact Nat.le_refl _))
            have cH : ∀ d os, Calls Try.prog 29 #[.slice (some ⟨b, off, none⟩) n c, .int .i64 (j : Int), .int .i64 ((x - t : Nat) : Int)] (Go.Sort.grow (redrawn wr d) os) fun e w'' => e = .returned (.float .f64 (at0 (val0 fs s j) (x - t))) ∧ ∃ p : Regrown, w'' = Go.Sort.grow (redrawn wr p.d) p.os := fun d os =>
              Calls.regrown_of (HIH.out (x - t) (by omega) _ _ (Fl_below HFl.out (below_regrown wr d os) (Nat.le_refl _)))
            have hm1 := mul_run (HOK.out.mu t (by omega))
            have ha1 := add_run (HOK.out.ad x t (by omega))
            have hcvt := conv_int_real (t : Int)
            have hgt := gt_pos (HOK.out.vp x t (by omega)) (bestH_pos (fun u hu => HOK.out.vp x u hu) t (by omega))
            have HBH := hid (show bestH P (val0 fs s j) x (t + 1) = max (bestH P (val0 fs s j) x t) (vK P (val0 fs s j) x t) from rfl)
            generalize vK P (val0 fs s j) x t = V at ha1 hgt HBH
            generalize bestH P (val0 fs s j) x t = B0 at hgt HBH ⊢
            generalize fmul (intW (t : Int)) P = M1 at hm1 ha1
            generalize intW (t : Int) = KW at hm1 hcvt
            generalize at0 (val0 fs s j) (x - t) = A at cH ha1
            by_cases hgv : B0 < V
            · rw [decide_eq_true hgv] at hgt
              have HMX := hid (show max B0 V = V by omega)
              clear hgv
              go_wp2_with fail
              refine wp_region_quiet_below (by kernel_rfl) (by kernel_rfl) ?_
              repeat (go_big_quiet_step (first | exact cH _ _))
              refine wpQuiet_nil ?_
              intro w9 hw9
              obtain ⟨⟨dq, osq⟩, hw9⟩ := hw9
              have HB9 := hid (show Below wr.heap.size wr w9 by rw [hw9]; exact below_regrown wr dq osq)
              clear hw9 cH hci
              go_wp2_with fail
              go_roundw
              case rel => exact ⟨t + 1, by omega, by go_num, by rw [HBH.out, HMX.out], HBI.out.trans (HB9.out.mono (by rw [← HS0.out]; exact HBI.out.size))⟩
              case measure => simp [intOf]; omega
            · rw [decide_eq_false hgv] at hgt
              have HMX := hid (show max B0 V = B0 by omega)
              clear hgv
              go_wp2_with fail
              refine wp_region_quiet_below (by kernel_rfl) (by kernel_rfl) ?_
              repeat (go_big_quiet_step (first | exact cH _ _))
              refine wpQuiet_nil ?_
              intro w9 hw9
              obtain ⟨⟨dq, osq⟩, hw9⟩ := hw9
              have HB9 := hid (show Below wr.heap.size wr w9 by rw [hw9]; exact below_regrown wr dq osq)
              clear hw9 cH hci
              go_wp2_with fail
              go_roundw
              case rel => exact ⟨t + 1, by omega, by go_num, by rw [HBH.out, HMX.out], HBI.out.trans (HB9.out.mono (by rw [← HS0.out]; exact HBI.out.size))⟩
              case measure => simp [intOf]; omega
          · obtain rfl : t = min k x + 1 := by omega
            have hbest := bestH_is P (val0 fs s j) x k
            rw [hbest]
            clear hbest
            have hci1 : wr.cell? ⟨w.heap.size, 1, none⟩ = some (.slice ca m cc) := by rw [HBI.out.cell (p := ⟨w.heap.size, 1, none⟩) (Nat.lt_succ_self _)]; exact HC1.out
            have HCI := hid (Sl_below (Sl_below HC.out HB0.out (Nat.le_refl _)) HBI.out (by rw [HS0.out]; exact Nat.le_refl _))
            obtain ⟨bc, oc, rfl, _, hcc⟩ := Sl_cellF (k := k) HCI.out (by rw [HM.out]; exact hlt)
            have hm2 := mul_run (HOK.out.mc x k (by rw [HM.out]; exact hlt))
            have ha2 := add_run (HOK.out.ac x k (by rw [HM.out]; exact hlt))
            obtain ⟨S, hS⟩ : ∃ S, outK P (val0 fs s j) (csA fs j) x (k + 1) = S := ⟨_, rfl⟩
            rw [hS] at ha2
            have HSe := hid hS
            clear hS
            generalize outK P (val0 fs s j) (csA fs j) x k = S0 at ha2 ⊢
            generalize bestK P (val0 fs s j) x k = B1 at hm2 ha2 ⊢
            generalize fmul (at0 (csA fs j) k) B1 = M2 at hm2 ha2
            generalize at0 (csA fs j) k = C at hm2 hcc
            by_cases hkx : k ≤ x
            · have e1 : min k x + 1 = k + 1 := by omega
              rw [e1]
              have hgk : ¬ ((k + 1 : Nat) : Int) ≤ (k : Int) := by omega
              have hgk2 : decide (((k + 1 : Nat) : Int) ≤ (k : Int)) = false := decide_eq_false hgk
              clear e1
              generalize ((k + 1 : Nat) : Int) = K1 at hgk hgk2 ⊢
              go_wp2_with fail
              go_roundw
              case rel => exact ⟨k + 1, by omega, by go_num, by rw [HSe.out], HBI.out⟩
              case measure => simp [intOf]; omega
            · have e1 : min k x + 1 = x + 1 := by omega
              rw [e1]
              have hgk : ((x + 1 : Nat) : Int) ≤ (k : Int) := by omega
              have hgx : ¬ ((x + 1 : Nat) : Int) ≤ (x : Int) := by omega
              have hgx2 : decide (((x + 1 : Nat) : Int) ≤ (x : Int)) = false := decide_eq_false hgx
              clear e1
              generalize ((x + 1 : Nat) : Int) = X1 at hgk hgx hgx2 ⊢
              go_wp2_with fail
              go_roundw
              case rel => exact ⟨k + 1, by omega, by go_num, by rw [HSe.out], HBI.out⟩
              case measure => simp [intOf]; omega
      · obtain rfl : k = m := by omega
        go_wp2_with fail
        go_ret
        exact ⟨rfl, HB0.out.trans (HBR.out.mono (Nat.le_succ _))⟩
end Go.Proofs.Ytnaogcpcaabbhaa
