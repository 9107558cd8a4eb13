/- The law OddsLimit. -/
import Derived.Test.YtkabnaemchgeeaaRowsLaw
namespace Go.Proofs.Ytkabnaemchgeeaa
open Go.RowKit FloatPlain

theorem limGo_law (p risk : Nat) (s : Int) : ∀ f n, n ≤ limGo p risk s f n ∧ limGo p risk s f n ≤ n + f ∧ (∀ m, n < m → m ≤ limGo p risk s f n → over p risk s m = false) ∧ (limGo p risk s f n = n + f ∨ over p risk s (limGo p risk s f n + 1) = true) := by
  intro f
  induction f with
  | zero => intro n; exact ⟨Nat.le_refl _, Nat.le_refl _, fun m h1 h2 => absurd h2 (by show ¬ m ≤ n; omega), Or.inl rfl⟩
  | succ f ih =>
    intro n
    have e : limGo p risk s (f + 1) n = if over p risk s (n + 1) then n else limGo p risk s f (n + 1) := rfl
    rw [e]
    by_cases h : over p risk s (n + 1) = true
    · rw [if_pos h]
      exact ⟨Nat.le_refl _, by omega, fun m h1 h2 => absurd h2 (by omega), Or.inr h⟩
    · rw [if_neg h]
      obtain ⟨a, b, c, d⟩ := ih (n + 1)
      refine ⟨by omega, by omega, fun m h1 h2 => ?_, ?_⟩
      · by_cases hm : m = n + 1
        · rw [hm]; simpa using h
        · exact c m (by omega) h2
      · rcases d with d | d
        · left; omega
        · exact Or.inr d

/-- at the seats themselves nothing stands behind -/
theorem over_self (p risk n : Nat) (hk : Lik risk) : over p risk n n = false := by
  unfold over
  have e : steps (n + 1) (n : Int) = 0 := by unfold steps; omega
  rw [e]
  show (Ieee.double.order 0 risk == some .gt) = false
  rw [cmp_gt zero_pos.fin hk.nn.fin, zero_pos.num, val_zero, hk.nn.num, decide_eq_false_iff_not]
  omega

set_option maxRecDepth 8000 in
set_option maxHeartbeats 4000000 in
theorem oddsLimit_any (x : Int) (p risk : Nat) (hp : p < 18446744073709551616) (hq : risk < 18446744073709551616) (w : World) :
    Calls Try.prog 9 #[.int .i64 x, .float .f64 p, .float .f64 risk] w fun e w' => e = .returned (.bool true) ∧ Below w.heap.size w w' := by
  obtain ⟨s, hn⟩ : ∃ n : Nat, x % 12 = n := ⟨(x % 12).toNat, by omega⟩
  have hsb : s < 12 := by omega
  have HPK := hid hn
  obtain ⟨g1, h1⟩ : ∃ b, (FloatKind.f64.format.order p 0 == some .gt || FloatKind.f64.format.order p 0 == some .eq) = b := ⟨_, rfl⟩
  obtain ⟨g2, h2⟩ : ∃ b, (FloatKind.f64.format.order p 4607182418800017408 == some .lt || FloatKind.f64.format.order p 4607182418800017408 == some .eq) = b := ⟨_, rfl⟩
  obtain ⟨g3, h3⟩ : ∃ b, (FloatKind.f64.format.order risk 0 == some .gt || FloatKind.f64.format.order risk 0 == some .eq) = b := ⟨_, rfl⟩
  obtain ⟨g4, h4⟩ : ∃ b, (FloatKind.f64.format.order risk 4607182418800017408 == some .lt || FloatKind.f64.format.order risk 4607182418800017408 == some .eq) = b := ⟨_, rfl⟩
  have hl1 : likB p = (g1 && g2) := by subst h1 h2; rfl
  have hl2 : likB risk = (g3 && g4) := by subst h3 h4; rfl
  have HL1 := hid hl1
  have HL2 := hid hl2
  clear hl1 hl2 hn
  by_cases hg : ((g1 && g2) && (g3 && g4)) = true
  · obtain ⟨⟨rfl, rfl⟩, rfl, rfl⟩ : (g1 = true ∧ g2 = true) ∧ g3 = true ∧ g4 = true := by simpa using hg
    have hlb1 : likB p = true := HL1.out
    have hlb2 : likB risk = true := HL2.out
    have hL := (likB_iff p hp).1 hlb1
    have hK := (likB_iff risk hq).1 hlb2
    have HR := hid (sub_lik hL).1
    have HL := hid hL
    have HT1 := hid hlb1
    have HT2 := hid hlb2
    have hmost : most s = 4 * s + 16 := by unfold most; omega
    obtain ⟨L, hLL⟩ : ∃ L, limGo p risk s (most s - s) s = L := ⟨_, rfl⟩
    have hlaw := limGo_law p risk s (most s - s) s
    rw [hLL, hmost] at hlaw
    obtain ⟨l1, l2, l3, l4⟩ := hlaw
    have hov : ∀ m, s ≤ m → m ≤ L → over p risk s m = false := fun m a b => by
      by_cases c : m = s
      · rw [c]; exact over_self p risk s hK
      · exact l3 m (by omega) b
    have l2' : L ≤ 4 * s + 16 := by omega
    have l4' : L = 4 * s + 16 ∨ over p risk s (L + 1) = true := by
      rcases l4 with l4 | l4
      · left; omega
      · exact Or.inr l4
    have HOV := hid hov
    have HLL := hid hLL
    have HL4 := hid l4'
    have hw1 : IntKind.i64.wrap (4 * (s : Int)) = 4 * (s : Int) := by rw [IntKind.wrap_i64]; omega
    obtain ⟨T, hT⟩ : ∃ T : Nat, 4 * s + 16 = T := ⟨_, rfl⟩
    have hw2 : IntKind.i64.wrap (4 * (s : Int) + 16) = (T : Int) := by rw [IntKind.wrap_i64]; omega
    have hw3 : IntKind.i64.wrap ((L : Int) + 1) = (L : Int) + 1 := by rw [IntKind.wrap_i64]; omega
    have hLT : (L : Int) ≤ (T : Int) := by omega
    have hsL : (s : Int) ≤ (L : Int) := by omega
    have hTb : T ≤ 60 := by omega
    have hd1 : decide (L < s) = false := by simp; omega
    have hd2 : decide (T < L) = false := by simp; omega
    have HTT := hid hT
    clear hov hLL l2 l3 l4 l4' hK hL hlb1 hlb2 hg hmost l2' hT
    go_enter Try.func9, Try.ntmps9
    go_wp2_with fail
    refine (pick_any x 12 (by omega) (by omega) _).mono ?_
    rintro e w1 ⟨rfl, hw⟩
    obtain rfl := hw
    rw [HPK.out]
    go_wp2_with fail
    refine (limit_any s p risk _ (by omega) HT1.out HT2.out HR.out (rows_lik HL.out _ (by unfold most; omega)) (sums_lik HL.out _ _ (by unfold most; omega))).mono ?_
    rintro e w1 ⟨rfl, hb⟩
    rw [HLL.out]
    have HB1 := hid hb
    clear hb
    go_wp2_with fail
    go_loopw [11] (fun i wr => ∃ k : Nat, s ≤ k ∧ k ≤ L + 1 ∧ i = .int .i64 k ∧ Below w.heap.size w wr) (fun i _ => L + 1 - (intOf i).toNat)
    case atStart => exact ⟨s, by omega, by omega, rfl, HB1.out⟩
    case round =>
      obtain ⟨k, hk1, hk2, rfl, hb⟩ := hrel
      have HB := hid hb
      clear hb
      by_cases hlt : k ≤ L
      · have hlt' : (k : Int) ≤ (L : Int) := by omega
        go_wp2_with fail
        refine (above_any k s p _ (by omega) HT1.out HR.out (rows_lik HL.out _ (by omega)) (sums_lik HL.out k s (by omega) k (Nat.le_refl _))).mono ?_
        rintro e w2 ⟨rfl, hb⟩
        have HB2 := hid (HB.out.trans (hb.mono HB.out.size))
        clear hb
        have hcmp : (FloatKind.f64.format.order (bsum (rowN p k) (k + 1) (steps (k + 1) s)) risk == some .gt) = false := HOV.out k hk1 hlt
        generalize bsum (rowN p k) (k + 1) (steps (k + 1) s) = S at hcmp ⊢
        go_wp2_with fail
        go_roundw
        case rel => exact ⟨k + 1, by omega, by omega, by go_num, HB2.out⟩
        case measure => simp [intOf]; omega
      · obtain rfl : k = L + 1 := by omega
        have hnl : ¬ ((L : Int) + 1 ≤ (L : Int)) := by omega
        go_wp2_with fail
        have hcall := above_any (L + 1) s p wr (by omega) HT1.out HR.out (rows_lik HL.out _ (by omega)) (sums_lik HL.out (L + 1) s (by omega) (L + 1) (Nat.le_refl _))
        rw [show (((L + 1 : Nat) : Int)) = (L : Int) + 1 by omega] at hcall
        refine hcall.mono ?_
        clear hcall
        rintro e w2 ⟨rfl, hb⟩
        have HB2 := hid (HB.out.trans (hb.mono HB.out.size))
        clear hb
        obtain ⟨b, hbb⟩ : ∃ b, over p risk s (L + 1) = b := ⟨_, rfl⟩
        have hcmp : (FloatKind.f64.format.order (bsum (rowN p (L + 1)) (L + 1 + 1) (steps (L + 1 + 1) s)) risk == some .gt) = b := hbb
        have h4 : L = T ∨ b = true := by
          rcases HL4.out with h | h
          · left; rw [← HTT.out]; exact h
          · right; rw [← hbb]; exact h
        clear hbb
        generalize bsum (rowN p (L + 1)) (L + 1 + 1) (steps (L + 1 + 1) s) = S at hcmp ⊢
        by_cases hLT2 : L = T
        · have hEQ : ((L : Int) == (T : Int)) = true := by simp; omega
          have hLTi : (L : Int) = (T : Int) := by omega
          obtain rfl := hLT2
          clear h4
          go_wp2_with fail
          refine (awake_any _).mono ?_
          rintro e w4 ⟨rfl, hb⟩
          have HB4 := hid (HB2.out.trans (hb.mono HB2.out.size))
          clear hb
          go_wp2_with fail
          go_ret
          exact ⟨rfl, HB4.out⟩
        · obtain rfl : b = true := by rcases h4 with h | h; exact absurd h hLT2; exact h
          have hNE : ((L : Int) == (T : Int)) = false := by simp; omega
          have hNE2 : ¬ (L : Int) = (T : Int) := by omega
          clear h4
          go_wp2_with fail
          refine (awake_any _).mono ?_
          rintro e w4 ⟨rfl, hb⟩
          have HB4 := hid (HB2.out.trans (hb.mono HB2.out.size))
          clear hb
          go_wp2_with fail
          go_ret
          exact ⟨rfl, HB4.out⟩
  · have hlf : (likB p && likB risk) = false := by rw [HL1.out, HL2.out]; simpa using hg
    have HLF := hid hlf
    clear hlf
    cases g1
    · clear hg
      go_enter Try.func9, Try.ntmps9
      go_wp2_with fail
      refine (pick_any x 12 (by omega) (by omega) _).mono ?_
      rintro e w1 ⟨rfl, hw⟩
      obtain rfl := hw
      rw [HPK.out]
      go_wp2_with fail
      refine (limit_unlikely s p risk _ (by omega) (by omega) HLF.out).mono ?_
      rintro e w1 ⟨rfl, hw⟩
      obtain rfl := hw
      go_wp2_with fail
      refine (awake_any _).mono ?_
      rintro e w4 ⟨rfl, hb⟩
      have HB4 := hid hb
      clear hb
      go_wp2_with fail
      go_ret
      exact ⟨rfl, HB4.out⟩
    · cases g2
      · clear hg
        go_enter Try.func9, Try.ntmps9
        go_wp2_with fail
        refine (pick_any x 12 (by omega) (by omega) _).mono ?_
        rintro e w1 ⟨rfl, hw⟩
        obtain rfl := hw
        rw [HPK.out]
        go_wp2_with fail
        refine (limit_unlikely s p risk _ (by omega) (by omega) HLF.out).mono ?_
        rintro e w1 ⟨rfl, hw⟩
        obtain rfl := hw
        go_wp2_with fail
        refine (awake_any _).mono ?_
        rintro e w4 ⟨rfl, hb⟩
        have HB4 := hid hb
        clear hb
        go_wp2_with fail
        go_ret
        exact ⟨rfl, HB4.out⟩
      · cases g3
        · clear hg
          go_enter Try.func9, Try.ntmps9
          go_wp2_with fail
          refine (pick_any x 12 (by omega) (by omega) _).mono ?_
          rintro e w1 ⟨rfl, hw⟩
          obtain rfl := hw
          rw [HPK.out]
          go_wp2_with fail
          refine (limit_unlikely s p risk _ (by omega) (by omega) HLF.out).mono ?_
          rintro e w1 ⟨rfl, hw⟩
          obtain rfl := hw
          go_wp2_with fail
          refine (awake_any _).mono ?_
          rintro e w4 ⟨rfl, hb⟩
          have HB4 := hid hb
          clear hb
          go_wp2_with fail
          go_ret
          exact ⟨rfl, HB4.out⟩
        · obtain rfl : g4 = false := by simpa using hg
          clear hg
          go_enter Try.func9, Try.ntmps9
          go_wp2_with fail
          refine (pick_any x 12 (by omega) (by omega) _).mono ?_
          rintro e w1 ⟨rfl, hw⟩
          obtain rfl := hw
          rw [HPK.out]
          go_wp2_with fail
          refine (limit_unlikely s p risk _ (by omega) (by omega) HLF.out).mono ?_
          rintro e w1 ⟨rfl, hw⟩
          obtain rfl := hw
          go_wp2_with fail
          refine (awake_any _).mono ?_
          rintro e w4 ⟨rfl, hb⟩
          have HB4 := hid hb
          clear hb
          go_wp2_with fail
          go_ret
          exact ⟨rfl, HB4.out⟩
end Go.Proofs.Ytkabnaemchgeeaa
