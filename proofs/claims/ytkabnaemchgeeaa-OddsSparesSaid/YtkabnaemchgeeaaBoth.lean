/- The program and the document answer alike; the laws OddsLimits, OddsShows. -/
import Derived.Test.YtkabnaemchgeeaaSame
namespace Go.Proofs.Ytkabnaemchgeeaa
open Go.RowKit FloatPlain

/-- a call that tells two numbers -/
def Tells (f : Nat) (args : Array Value) (u v : Value) : Prop := ∀ w : World, Calls Try.prog f args w fun e w' => e = .returned (.tuple #[u, v]) ∧ Below w.heap.size w w'
/-- a call that tells a row and a number -/
def TellsRow (f : Nat) (args : Array Value) (q : List Nat) (v : Value) : Prop := ∀ w : World, Calls Try.prog f args w fun e w' => ∃ u, e = .returned (.tuple #[u, v]) ∧ Sl w' u (Fb q) ∧ Below w.heap.size w w'

theorem Tells.of_same {f : Nat} {args : Array Value} {u v : Value} (h : ∀ w : World, Calls Try.prog f args w fun e w' => e = .returned (.tuple #[u, v]) ∧ w = w') : Tells f args u v := fun w =>
  (h w).mono fun e w' ⟨a, b⟩ => by subst b; exact ⟨a, Below.refl _ _⟩
theorem TellsRow.of_nil {f : Nat} {args : Array Value} {v : Value} (h : ∀ w : World, Calls Try.prog f args w fun e w' => e = .returned (.tuple #[.slice none 0 0, v]) ∧ w = w') : TellsRow f args [] v := fun w =>
  (h w).mono fun e w' ⟨a, b⟩ => by subst b; exact ⟨_, a, Sl_nil _, Below.refl _ _⟩

theorem limits_both (n : Int) (p risk : Nat) (hp : p < 18446744073709551616) (h : n ≤ 60 ∨ 1024 < n) :
    ∃ x e : Int, Tells 12 #[.int .i64 n, .float .f64 p, .float .f64 risk] (.int .i64 x) (.int .i64 e) ∧ Tells 13 #[.int .i64 n, .float .f64 p, .float .f64 risk] (.int .i64 x) (.int .i64 e) := by
  by_cases hb : n < 0 ∨ 1024 < n
  · exact ⟨0, 2, .of_same fun w => limit_bad n p risk w hb, .of_same fun w => refLimit_bad n p risk w hb⟩
  · by_cases hl : (likB p && likB risk) = false
    · exact ⟨0, 250, .of_same fun w => limit_unlikely n p risk w (by omega) (by omega) hl, .of_same fun w => refLimit_unlikely n p risk w (by omega) (by omega) hl⟩
    · have hl2 : likB p = true ∧ likB risk = true := by simpa using hl
      obtain ⟨m, rfl⟩ := Int.eq_ofNat_of_zero_le (show 0 ≤ n by omega)
      have hL := (likB_iff p hp).1 hl2.1
      have hm : most m ≤ 1000 := by unfold most; omega
      exact ⟨_, _, fun w => limit_any m p risk w (by omega) hl2.1 hl2.2 (sub_lik hL).1 (rows_lik hL _ hm) (sums_lik hL _ _ hm),
        fun w => refLimit_any m p risk w (by omega) hl2.1 hl2.2 (sub_lik hL).1 (rows_lik hL _ hm) (sums_lik hL _ _ hm)⟩

theorem shows_both (n : Int) (p : Nat) (hp : p < 18446744073709551616) (h : n ≤ 600 ∨ 4096 < n) :
    ∃ (q : List Nat) (e : Int), q.length ≤ 601 ∧ TellsRow 16 #[.int .i64 n, .float .f64 p] q (.int .i64 e) ∧ TellsRow 21 #[.int .i64 n, .float .f64 p] q (.int .i64 e) := by
  by_cases hb : n < 0 ∨ 4096 < n
  · exact ⟨[], 2, by simp, .of_nil fun w => shows_bad n p w hb, .of_nil fun w => refShows_bad n p w hb⟩
  · by_cases hl : likB p = false
    · exact ⟨[], 250, by simp, .of_nil fun w => shows_unlikely n p w (by omega) (by omega) hl, .of_nil fun w => refShows_unlikely n p w (by omega) (by omega) hl⟩
    · have hl2 : likB p = true := by simpa using hl
      obtain ⟨m, rfl⟩ := Int.eq_ofNat_of_zero_le (show 0 ≤ n by omega)
      have hL := (likB_iff p hp).1 hl2
      refine ⟨rowN p m, 0, by rw [rowN_len]; omega, fun w => ?_, fun w => ?_⟩
      · exact (shows_any m p w (by omega) hl2 (sub_lik hL).1 (rows_lik hL _ (by omega))).mono fun e w' ⟨v, a, b, c⟩ => ⟨v, a, Sl_of_own b, c⟩
      · exact (refShows_any m p w (by omega) hl2 (sub_lik hL).1 (rows_lik hL _ (by omega))).mono fun e w' ⟨v, a, b, c⟩ => ⟨v, a, Sl_of_own b, c⟩

theorem above_both (n s : Int) (p : Nat) (hp : p < 18446744073709551616) (h : n ≤ 600 ∨ 4096 < n) :
    ∃ (x : Nat) (e : Int), Tells 22 #[.int .i64 n, .int .i64 s, .float .f64 p] (.float .f64 x) (.int .i64 e) ∧ Tells 23 #[.int .i64 n, .int .i64 s, .float .f64 p] (.float .f64 x) (.int .i64 e) := by
  by_cases hb : n < 0 ∨ 4096 < n
  · exact ⟨0, 2, .of_same fun w => above_bad n s p w hb, .of_same fun w => refAbove_bad n s p w hb⟩
  · by_cases hl : likB p = false
    · exact ⟨0, 250, .of_same fun w => above_unlikely n s p w (by omega) (by omega) hl, .of_same fun w => refAbove_unlikely n s p w (by omega) (by omega) hl⟩
    · have hl2 : likB p = true := by simpa using hl
      obtain ⟨m, rfl⟩ := Int.eq_ofNat_of_zero_le (show 0 ≤ n by omega)
      have hL := (likB_iff p hp).1 hl2
      exact ⟨_, 0, fun w => above_any m s p w (by omega) hl2 (sub_lik hL).1 (rows_lik hL _ (by omega)) (sums_lik hL m s (by omega) m (Nat.le_refl _)),
        fun w => refAbove_any m s p w (by omega) hl2 (sub_lik hL).1 (rows_lik hL _ (by omega)) (sums_lik hL m s (by omega) m (Nat.le_refl _))⟩

set_option maxHeartbeats 1000000 in
theorem oddsLimits_any (n : Int) (p risk : Nat) (hp : p < 18446744073709551616) (w : World) :
    Calls Try.prog 3 #[.int .i64 n, .float .f64 p, .float .f64 risk] w fun e w' => e = .returned (.bool true) ∧ Below w.heap.size w w' := by
  by_cases hc : 60 < n ∧ n ≤ 1024
  · obtain ⟨m, hm⟩ : ∃ m, n.tmod 60 = m := ⟨_, rfl⟩
    have hm2 : n % 60 = m := by rw [← hm, Int.tmod_eq_emod_of_nonneg (by omega)]
    obtain ⟨x, e, h1, h2⟩ := limits_both m p risk hp (by omega)
    have hc1 := hc.1
    have hc2 := hc.2
    have hw1 : IntKind.i64.wrap m = m := by rw [IntKind.wrap_i64]; omega
    have H1 := hid h1
    have H2 := hid h2
    clear h1 h2 hc hm2
    go_enter Try.func3, Try.ntmps3
    go_wp2_with fail
    refine (H1.out _).mono ?_
    rintro e1 w1 ⟨rfl, hb⟩
    have HB := hid hb
    clear hb
    go_wp2_with fail
    refine (H2.out _).mono ?_
    rintro e1 w2 ⟨rfl, hb⟩
    have HB2 := hid (HB.out.trans (hb.mono HB.out.size))
    clear hb
    go_wp2_with fail
    refine (awake_any _).mono ?_
    rintro e1 w3 ⟨rfl, hb⟩
    have HB3 := hid (HB2.out.trans (hb.mono HB2.out.size))
    clear hb
    go_wp2_with fail
    go_ret
    exact ⟨rfl, HB3.out⟩
  · obtain ⟨x, e, h1, h2⟩ := limits_both n p risk hp (by omega)
    have H1 := hid h1
    have H2 := hid h2
    clear h1 h2
    by_cases hc1 : n ≤ 60
    · clear hc
      go_enter Try.func3, Try.ntmps3
      go_wp2_with fail
      refine (H1.out _).mono ?_
      rintro e1 w1 ⟨rfl, hb⟩
      have HB := hid hb
      clear hb
      go_wp2_with fail
      refine (H2.out _).mono ?_
      rintro e1 w2 ⟨rfl, hb⟩
      have HB2 := hid (HB.out.trans (hb.mono HB.out.size))
      clear hb
      go_wp2_with fail
      refine (awake_any _).mono ?_
      rintro e1 w3 ⟨rfl, hb⟩
      have HB3 := hid (HB2.out.trans (hb.mono HB2.out.size))
      clear hb
      go_wp2_with fail
      go_ret
      exact ⟨rfl, HB3.out⟩
    · have hc3 : 60 < n := by omega
      have hc2 : 1024 < n := by omega
      clear hc hc1
      go_enter Try.func3, Try.ntmps3
      go_wp2_with fail
      refine (H1.out _).mono ?_
      rintro e1 w1 ⟨rfl, hb⟩
      have HB := hid hb
      clear hb
      go_wp2_with fail
      refine (H2.out _).mono ?_
      rintro e1 w2 ⟨rfl, hb⟩
      have HB2 := hid (HB.out.trans (hb.mono HB.out.size))
      clear hb
      go_wp2_with fail
      refine (awake_any _).mono ?_
      rintro e1 w3 ⟨rfl, hb⟩
      have HB3 := hid (HB2.out.trans (hb.mono HB2.out.size))
      clear hb
      go_wp2_with fail
      go_ret
      exact ⟨rfl, HB3.out⟩
theorem L1_own (x : Nat) (w : World) : (w.alloc (.cells #[.float .f64 x] 22)).ownsRow w.heap.size 22 1 (.slice (some ⟨w.heap.size, 0, none⟩) 1 1) 1 (Fb [x]) :=
  own_of_cells (heap_alloc_new w _) (Nat.le_refl _) (Nat.le_refl _) (by unfold maxLen; omega) rfl rfl

set_option maxHeartbeats 4000000 in
theorem oddsShows_any (n s : Int) (p : Nat) (hp : p < 18446744073709551616) (w : World) :
    Calls Try.prog 8 #[.int .i64 n, .int .i64 s, .float .f64 p] w fun e w' => e = .returned (.bool true) ∧ Below w.heap.size w w' := by
  by_cases hc : 600 < n ∧ n ≤ 4096
  · obtain ⟨m, hm⟩ : ∃ m, n.tmod 600 = m := ⟨_, rfl⟩
    have hm2 : n % 600 = m := by rw [← hm, Int.tmod_eq_emod_of_nonneg (by omega)]
    obtain ⟨q, e, hq, h1, h2⟩ := shows_both m p hp (by omega)
    obtain ⟨x, e', h3, h4⟩ := above_both m s p hp (by omega)
    have hc1 := hc.1
    have hc2 := hc.2
    have hw1 : IntKind.i64.wrap m = m := by rw [IntKind.wrap_i64]; omega
    have H1 := hid h1
    have H2 := hid h2
    have H3 := hid h3
    have H4 := hid h4
    clear h1 h2 h3 h4 hc hm2
    go_enter Try.func8, Try.ntmps8
    go_wp2_with fail
    refine (H1.out _).mono ?_
    rintro e1 w1 ⟨u1, rfl, hs, hb⟩
    have HB1 := hid hb
    have HS1 := hid hs
    clear hb hs
    go_wp2_with fail
    refine (H2.out _).mono ?_
    rintro e1 w2 ⟨u2, rfl, hs, hb⟩
    have HB2 := hid (HB1.out.trans (hb.mono HB1.out.size))
    have HT1 := hid (Sl_below HS1.out hb (Nat.le_refl _))
    have HS2 := hid hs
    clear hb hs
    go_wp2_with fail
    refine (H3.out _).mono ?_
    rintro e1 w3 ⟨rfl, hb⟩
    have HB3 := hid (HB2.out.trans (hb.mono HB2.out.size))
    have HU1 := hid (Sl_below HT1.out hb (Nat.le_refl _))
    have HU2 := hid (Sl_below HS2.out hb (Nat.le_refl _))
    clear hb
    go_wp2_with fail
    refine (H4.out _).mono ?_
    rintro e1 w4 ⟨rfl, hb⟩
    have HB4 := hid (HB3.out.trans (hb.mono HB3.out.size))
    have HV1 := hid (Sl_below HU1.out hb (Nat.le_refl _))
    have HV2 := hid (Sl_below HU2.out hb (Nat.le_refl _))
    clear hb
    go_wp2_with fail
    refine (bits_any _ _ q _ HV1.out HV2.out (by omega)).mono ?_
    rintro e1 w5 ⟨rfl, hb⟩
    have HB5 := hid (HB4.out.trans (hb.mono HB4.out.size))
    clear hb
    go_wp2_with fail
    have hA := Sl_of_own ((L1_own x w5).alloc (.cells #[.float .f64 x] 22))
    have hA2 := Sl_of_own (L1_own x (w5.alloc (.cells #[.float .f64 x] 22)))
    rw [show (w5.alloc (.cells #[Value.float FloatKind.f64 x] 22)).heap.size = w5.heap.size + 1 by simp] at hA2
    refine (bits_any _ _ [x] _ hA hA2 (by simp)).mono ?_
    clear hA hA2
    rintro e1 w6 ⟨rfl, hb⟩
    have HB6 := hid (((HB5.out.alloc HB5.out.size _).alloc (by have := HB5.out.size; simp; omega) _).trans (hb.mono (by have := HB5.out.size; simp; omega)))
    clear hb
    go_wp2_with fail
    refine (awake_any _).mono ?_
    rintro e1 w7 ⟨rfl, hb⟩
    have HB7 := hid (HB6.out.trans (hb.mono HB6.out.size))
    clear hb
    go_wp2_with fail
    go_ret
    exact ⟨rfl, HB7.out⟩
  · obtain ⟨q, e, hq, h1, h2⟩ := shows_both n p hp (by omega)
    obtain ⟨x, e', h3, h4⟩ := above_both n s p hp (by omega)
    have H1 := hid h1
    have H2 := hid h2
    have H3 := hid h3
    have H4 := hid h4
    clear h1 h2 h3 h4
    by_cases hc1 : n ≤ 600
    · clear hc
      go_enter Try.func8, Try.ntmps8
      go_wp2_with fail
      refine (H1.out _).mono ?_
      rintro e1 w1 ⟨u1, rfl, hs, hb⟩
      have HB1 := hid hb
      have HS1 := hid hs
      clear hb hs
      go_wp2_with fail
      refine (H2.out _).mono ?_
      rintro e1 w2 ⟨u2, rfl, hs, hb⟩
      have HB2 := hid (HB1.out.trans (hb.mono HB1.out.size))
      have HT1 := hid (Sl_below HS1.out hb (Nat.le_refl _))
      have HS2 := hid hs
      clear hb hs
      go_wp2_with fail
      refine (H3.out _).mono ?_
      rintro e1 w3 ⟨rfl, hb⟩
      have HB3 := hid (HB2.out.trans (hb.mono HB2.out.size))
      have HU1 := hid (Sl_below HT1.out hb (Nat.le_refl _))
      have HU2 := hid (Sl_below HS2.out hb (Nat.le_refl _))
      clear hb
      go_wp2_with fail
      refine (H4.out _).mono ?_
      rintro e1 w4 ⟨rfl, hb⟩
      have HB4 := hid (HB3.out.trans (hb.mono HB3.out.size))
      have HV1 := hid (Sl_below HU1.out hb (Nat.le_refl _))
      have HV2 := hid (Sl_below HU2.out hb (Nat.le_refl _))
      clear hb
      go_wp2_with fail
      refine (bits_any _ _ q _ HV1.out HV2.out (by omega)).mono ?_
      rintro e1 w5 ⟨rfl, hb⟩
      have HB5 := hid (HB4.out.trans (hb.mono HB4.out.size))
      clear hb
      go_wp2_with fail
      have hA := Sl_of_own ((L1_own x w5).alloc (.cells #[.float .f64 x] 22))
      have hA2 := Sl_of_own (L1_own x (w5.alloc (.cells #[.float .f64 x] 22)))
      rw [show (w5.alloc (.cells #[Value.float FloatKind.f64 x] 22)).heap.size = w5.heap.size + 1 by simp] at hA2
      refine (bits_any _ _ [x] _ hA hA2 (by simp)).mono ?_
      clear hA hA2
      rintro e1 w6 ⟨rfl, hb⟩
      have HB6 := hid (((HB5.out.alloc HB5.out.size _).alloc (by have := HB5.out.size; simp; omega) _).trans (hb.mono (by have := HB5.out.size; simp; omega)))
      clear hb
      go_wp2_with fail
      refine (awake_any _).mono ?_
      rintro e1 w7 ⟨rfl, hb⟩
      have HB7 := hid (HB6.out.trans (hb.mono HB6.out.size))
      clear hb
      go_wp2_with fail
      go_ret
      exact ⟨rfl, HB7.out⟩
    · have hc3 : 600 < n := by omega
      have hc2 : 4096 < n := by omega
      clear hc hc1
      go_enter Try.func8, Try.ntmps8
      go_wp2_with fail
      refine (H1.out _).mono ?_
      rintro e1 w1 ⟨u1, rfl, hs, hb⟩
      have HB1 := hid hb
      have HS1 := hid hs
      clear hb hs
      go_wp2_with fail
      refine (H2.out _).mono ?_
      rintro e1 w2 ⟨u2, rfl, hs, hb⟩
      have HB2 := hid (HB1.out.trans (hb.mono HB1.out.size))
      have HT1 := hid (Sl_below HS1.out hb (Nat.le_refl _))
      have HS2 := hid hs
      clear hb hs
      go_wp2_with fail
      refine (H3.out _).mono ?_
      rintro e1 w3 ⟨rfl, hb⟩
      have HB3 := hid (HB2.out.trans (hb.mono HB2.out.size))
      have HU1 := hid (Sl_below HT1.out hb (Nat.le_refl _))
      have HU2 := hid (Sl_below HS2.out hb (Nat.le_refl _))
      clear hb
      go_wp2_with fail
      refine (H4.out _).mono ?_
      rintro e1 w4 ⟨rfl, hb⟩
      have HB4 := hid (HB3.out.trans (hb.mono HB3.out.size))
      have HV1 := hid (Sl_below HU1.out hb (Nat.le_refl _))
      have HV2 := hid (Sl_below HU2.out hb (Nat.le_refl _))
      clear hb
      go_wp2_with fail
      refine (bits_any _ _ q _ HV1.out HV2.out (by omega)).mono ?_
      rintro e1 w5 ⟨rfl, hb⟩
      have HB5 := hid (HB4.out.trans (hb.mono HB4.out.size))
      clear hb
      go_wp2_with fail
      have hA := Sl_of_own ((L1_own x w5).alloc (.cells #[.float .f64 x] 22))
      have hA2 := Sl_of_own (L1_own x (w5.alloc (.cells #[.float .f64 x] 22)))
      rw [show (w5.alloc (.cells #[Value.float FloatKind.f64 x] 22)).heap.size = w5.heap.size + 1 by simp] at hA2
      refine (bits_any _ _ [x] _ hA hA2 (by simp)).mono ?_
      clear hA hA2
      rintro e1 w6 ⟨rfl, hb⟩
      have HB6 := hid (((HB5.out.alloc HB5.out.size _).alloc (by have := HB5.out.size; simp; omega) _).trans (hb.mono (by have := HB5.out.size; simp; omega)))
      clear hb
      go_wp2_with fail
      refine (awake_any _).mono ?_
      rintro e1 w7 ⟨rfl, hb⟩
      have HB7 := hid (HB6.out.trans (hb.mono HB6.out.size))
      clear hb
      go_wp2_with fail
      go_ret
      exact ⟨rfl, HB7.out⟩
end Go.Proofs.Ytkabnaemchgeeaa
