/- The law OddsRows. -/
import Derived.Test.YtkabnaemchgeeaaBoth
namespace Go.Proofs.Ytkabnaemchgeeaa
open Go.RowKit FloatPlain

theorem pick_any (x n : Int) (hn : 1 ≤ n) (hn2 : n ≤ 9223372036854775807) (w : World) : Calls Try.prog 15 #[.int .i64 x, .int .i64 n] w fun e w' => e = .returned (.int .i64 (x % n)) ∧ w = w' := by
  have h0 : ¬ n < 1 := by omega
  have hz : (n == 0) = false := by simp; omega
  have k1 : x.tmod n < n := Int.tmod_lt_of_pos _ (by omega)
  have k2 : -n < x.tmod n := by
    have := Int.lt_tmod_of_pos x (b := n) (by omega)
    omega
  have E : (if x.tmod n < 0 then x.tmod n + n else x.tmod n) = x % n := by
    rw [Int.tmod_eq_emod]
    have e1 := Int.emod_nonneg x (b := n) (by omega)
    have e2 := Int.emod_lt_of_pos x (b := n) (by omega)
    split <;> split <;> omega
  have HE := hid E
  clear E
  by_cases c : x.tmod n < 0
  · go_enter Try.func15, Try.ntmps15
    go_wp2
    go_ret
    exact ⟨by rw [← HE.out, if_pos c]; rfl, rfl⟩
  · go_enter Try.func15, Try.ntmps15
    go_wp2
    go_ret
    exact ⟨by rw [← HE.out, if_neg (by omega)]; rfl, rfl⟩

theorem mul_zero {p r : Nat} (hp : Lik p) (hr : fsub one p = r) : fmul 0 r = 0 := by
  have h := (sub_lik hp).2
  rw [hr] at h
  have hq : Pos r := Nat.lt_of_le_of_lt h one_pos
  obtain ⟨_, _, _, h4⟩ := mul_le_one zero_pos hq.nn (by rw [hq.mag, ← val_one]; exact val_le h)
  have := h4 hq
  omega

set_option maxRecDepth 8000 in
set_option maxHeartbeats 4000000 in
theorem oddsRows_any (x : Int) (p : Nat) (hp : p < 18446744073709551616) (w : World) :
    Calls Try.prog 4 #[.int .i64 x, .float .f64 p] w fun e w' => e = .returned (.bool true) ∧ Below w.heap.size w w' := by
  obtain ⟨n, hn⟩ : ∃ n : Nat, x % 300 = n := ⟨(x % 300).toNat, by omega⟩
  have hnb : n < 300 := by omega
  have HPK := hid hn
  obtain ⟨g1, h1⟩ : ∃ b, (FloatKind.f64.format.order p 0 == some .gt || FloatKind.f64.format.order p 0 == some .eq) = b := ⟨_, rfl⟩
  obtain ⟨g2, h2⟩ : ∃ b, (FloatKind.f64.format.order p 4607182418800017408 == some .lt || FloatKind.f64.format.order p 4607182418800017408 == some .eq) = b := ⟨_, rfl⟩
  have hl : likB p = (g1 && g2) := by subst h1 h2; rfl
  have HLB := hid hl
  have hw1 : IntKind.i64.wrap ((n : Int) + 1) = (n : Int) + 1 := by rw [IntKind.wrap_i64]; omega
  have hw2 : IntKind.i64.wrap ((n : Int) + 2) = (n : Int) + 2 := by rw [IntKind.wrap_i64]; omega
  clear hl hn
  by_cases hg : (g1 && g2) = true
  · obtain ⟨rfl, rfl⟩ : g1 = true ∧ g2 = true := by simpa using hg
    have hlb : likB p = true := HLB.out
    have hL := (likB_iff p hp).1 hlb
    have hr := (sub_lik hL).1
    have HR := hid hr
    have HL := hid hL
    have HLT := hid hlb
    obtain ⟨r, hrr⟩ : ∃ r, fsub one p = r := ⟨_, rfl⟩
    have HRR := hid hrr
    have hsub := sub_run hr
    rw [hrr] at hsub
    unfold one at hsub
    clear hlb hL hr hrr hg
    go_enter Try.func4, Try.ntmps4
    go_wp2_with fail
    refine (pick_any x 300 (by omega) (by omega) _).mono ?_
    rintro e w1 ⟨rfl, hw⟩
    obtain rfl := hw
    rw [HPK.out]
    go_wp2_with fail
    refine (shows_any n p _ (by omega) HLT.out HR.out (rows_lik HL.out n (by omega))).mono ?_
    rintro e w1 ⟨v1, rfl, ho, hb⟩
    obtain ⟨ga, ca, rfl, hca, _⟩ := own_some ho (by omega)
    have HB1 := hid hb
    have HO1 := hid ho
    clear hb ho
    go_wp2_with fail
    have hcall := shows_any (n + 1) p w1 (by omega) HLT.out HR.out (rows_lik HL.out (n + 1) (by omega))
    rw [show (((n + 1 : Nat) : Int)) = (n : Int) + 1 by omega] at hcall
    refine hcall.mono ?_
    clear hcall
    rintro e w2 ⟨v2, rfl, ho, hb⟩
    obtain ⟨gb, cb, rfl, hcb, _⟩ := own_some ho (by omega)
    have HB2 := hid (HB1.out.trans (hb.mono HB1.out.size))
    have HS1 := hid (Sl_below (Sl_of_own HO1.out) hb (Nat.le_refl _))
    have HS2 := hid (Sl_of_own ho)
    clear hb ho
    go_wp2_with fail
    go_loop [11] (fun i => ∃ k : Nat, k ≤ n + 2 ∧ i = .int .i64 k) (fun i => n + 2 - (intOf i).toNat)
    case atStart => exact ⟨0, by omega, rfl⟩
    case round =>
      obtain ⟨i, hi, rfl⟩ := hrel
      by_cases hlt : i < n + 2
      · have hlt' : (i : Int) < (n : Int) + 2 := by omega
        have hlt3 : (i : Int) < (n : Int) + 1 + 1 := by omega
        have hbd := (rowN_bound HL.out (n + 1) (by omega)).pos (by omega) i
        have hok := rowN_okay HL.out n (by omega)
        rw [HRR.out] at hok
        obtain ⟨b2, o2, e2, _, q2⟩ := Sl_cellF (k := i) HS2.out (by rw [rowN_len]; omega)
        cases e2
        rw [Nat.zero_add, rowN_succ, HRR.out, nextRow_at0 _ _ _ _ (by rw [rowN_len]; omega)] at q2
        rw [rowN_succ, HRR.out, nextRow_at0 _ _ _ _ (by rw [rowN_len]; omega)] at hbd
        obtain ⟨S, hS⟩ : ∃ S, cell (rowN p n) p r i = S := ⟨_, rfl⟩
        rw [hS] at q2 hbd
        have hss : (FloatKind.f64.format.order S S != some .eq) = false := by
          show (!(Ieee.double.order S S == some .eq)) = false
          rw [cmp_eq hbd.fin hbd.fin]; simp
        have hneg : (FloatKind.f64.format.order S 0 == some .lt) = false := by
          show (Ieee.double.order S 0 == some .lt) = false
          rw [cmp_lt hbd.fin zero_pos.fin, hbd.num, zero_pos.num, val_zero, decide_eq_false_iff_not]
          omega
        by_cases h0 : i = 0
        · subst h0
          obtain ⟨b1, o1, e1, _, q1⟩ := Sl_cellF (k := 0) HS1.out (by rw [rowN_len]; omega)
          cases e1
          have hm1 := mul_run (hok.mr 0)
          have hM : fmul (at0 (rowN p n) 0) r = S := hS
          rw [hM] at hm1
          have ha := add_run (show Ieee.double.add S 0 = some S by
            have h8 := add_pos hbd zero_pos.nn (k := S) (by rw [zero_pos.mag, val_zero]; omega)
            rw [h8.1, add_zero hbd])
          generalize at0 (rowN p n) 0 = A at q1 hm1
          have hn1 : (0 : Int) < (n : Int) + 1 := by omega
          have hn2 : (0 : Int) < (n : Int) + 2 := by omega
          have HI := hid hi
          clear hS hM hok hbd hlt' hlt3 hlt hi
          go_wp2_with fail
          go_round
          case rel => exact ⟨1, by omega, rfl⟩
          case measure => simp [intOf]
        · obtain ⟨j, hj⟩ : ∃ j, i = j + 1 := ⟨i - 1, by omega⟩
          have hpos : (0 : Int) < (i : Int) := by omega
          have hwj : IntKind.i64.wrap ((i : Int) - 1) = (j : Int) := by rw [IntKind.wrap_i64]; omega
          have hjn : (j : Int) < (n : Int) + 1 := by omega
          obtain ⟨b3, o3, e3, _, q3⟩ := Sl_cellF (k := j) HS1.out (by rw [rowN_len]; omega)
          cases e3
          rw [Nat.zero_add] at q3
          have hm2 := mul_run (hok.mp j)
          have ha0 := hok.ad j
          rw [← hj] at ha0
          have hcell : cell (rowN p n) p r i = fadd (fmul (at0 (rowN p n) i) r) (fmul (at0 (rowN p n) j) p) := by
            unfold cell
            rw [if_neg h0, show i - 1 = j by omega]
          by_cases hin : i < n + 1
          · have hin' : (i : Int) < (n : Int) + 1 := by omega
            obtain ⟨b1, o1, e1, _, q1⟩ := Sl_cellF (k := i) HS1.out (by rw [rowN_len]; omega)
            cases e1
            rw [Nat.zero_add] at q1
            have hm1 := mul_run (hok.mr i)
            rw [← hcell, hS] at ha0
            have ha := add_run ha0
            generalize at0 (rowN p n) i = A at q1 hm1 ha
            generalize at0 (rowN p n) j = A' at q3 hm2 ha
            generalize fmul A r = M1 at hm1 ha
            generalize fmul A' p = M2 at hm2 ha
            have HI := hid hi
            clear hS hok hbd hj hcell hi ha0
            go_wp2_with fail
            go_round
            case rel => exact ⟨i + 1, by omega, by go_num⟩
            case measure => simp [intOf]; omega
          · have hin' : ¬ (i : Int) < (n : Int) + 1 := by omega
            have hz : at0 (rowN p n) i = 0 := at0_ge (by rw [rowN_len]; omega)
            rw [← hcell, hS, hz, mul_zero HL.out HRR.out] at ha0
            have ha := add_run ha0
            generalize at0 (rowN p n) j = A' at q3 hm2 ha
            generalize fmul A' p = M2 at hm2 ha
            have HI := hid hi
            clear hS hok hbd hj hcell hi ha0 hz
            go_wp2_with fail
            go_round
            case rel => exact ⟨i + 1, by omega, by go_num⟩
            case measure => simp [intOf]; omega
      · obtain rfl : i = n + 2 := by omega
        have hge : ¬ (n : Int) + 2 < (n : Int) + 1 + 1 := by omega
        go_wp2_with fail
        refine (awake_any _).mono ?_
        rintro e w4 ⟨rfl, hb⟩
        have HB4 := hid (HB2.out.trans (hb.mono HB2.out.size))
        clear hb
        go_wp2_with fail
        go_ret
        exact ⟨rfl, HB4.out⟩
  · have hlb : likB p = false := by rw [HLB.out]; simpa using hg
    have HLF := hid hlb
    clear hlb
    cases g1
    · go_enter Try.func4, Try.ntmps4
      go_wp2_with fail
      refine (pick_any x 300 (by omega) (by omega) _).mono ?_
      rintro e w1 ⟨rfl, hw⟩
      obtain rfl := hw
      rw [HPK.out]
      go_wp2_with fail
      refine (shows_unlikely n p _ (by omega) (by omega) HLF.out).mono ?_
      rintro e w1 ⟨rfl, hw⟩
      obtain rfl := hw
      go_wp2_with fail
      refine (shows_unlikely ((n : Int) + 1) p _ (by omega) (by omega) HLF.out).mono ?_
      rintro e w1 ⟨rfl, hw⟩
      obtain rfl := hw
      go_wp2_with fail
      refine (awake_any _).mono ?_
      rintro e w4 ⟨rfl, hb⟩
      have HB4 := hid hb
      clear hb
      go_wp2_with fail
      go_ret
      exact ⟨rfl, HB4.out⟩
    · obtain rfl : g2 = false := by simpa using hg
      clear hg
      go_enter Try.func4, Try.ntmps4
      go_wp2_with fail
      refine (pick_any x 300 (by omega) (by omega) _).mono ?_
      rintro e w1 ⟨rfl, hw⟩
      obtain rfl := hw
      rw [HPK.out]
      go_wp2_with fail
      refine (shows_unlikely n p _ (by omega) (by omega) HLF.out).mono ?_
      rintro e w1 ⟨rfl, hw⟩
      obtain rfl := hw
      go_wp2_with fail
      refine (shows_unlikely ((n : Int) + 1) p _ (by omega) (by omega) HLF.out).mono ?_
      rintro e w1 ⟨rfl, hw⟩
      obtain rfl := hw
      go_wp2_with fail
      refine (awake_any _).mono ?_
      rintro e w4 ⟨rfl, hb⟩
      have HB4 := hid hb
      clear hb
      go_wp2_with fail
      go_ret
      exact ⟨rfl, HB4.out⟩
end Go.Proofs.Ytkabnaemchgeeaa
