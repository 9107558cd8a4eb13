/- Limit: the document's. -/
import Derived.Test.YtkabnaemchgeeaaLimits
namespace Go.Proofs.Ytkabnaemchgeeaa
open Go.RowKit FloatPlain

set_option maxRecDepth 8000 in
set_option maxHeartbeats 4000000 in
theorem refLimit_any (n p risk : Nat) (w : World) (hn : n ≤ 1024) (hl : likB p = true) (hk : likB risk = true) (hr : Ieee.double.sub one p = some (fsub one p)) (hok : Rows p (most n)) (hs : Sums p (most n) n) :
    Calls Try.prog 13 #[.int .i64 n, .float .f64 p, .float .f64 risk] w fun e w' => e = .returned (.tuple #[.int .i64 (limGo p risk n (most n - n) n), .int .i64 0]) ∧ Below w.heap.size w w' := by
  have hm : most n ≤ 4096 := Nat.min_le_left _ _
  have hnm : n ≤ most n := by unfold most; omega
  have HOK := hid hok
  have HS := hid hs
  have HR := hid hr
  clear hok hs hr
  have hn0 : (0 : Int) ≤ (n : Int) := by omega
  have hn1 : (n : Int) ≤ 1024 := by omega
  have hw1 : IntKind.i64.wrap (4 * (n : Int)) = 4 * (n : Int) := by rw [IntKind.wrap_i64]; omega
  by_cases h9 : 4 * n + 16 ≤ 4096
  · have hM : most n = 4 * n + 16 := by unfold most; omega
    obtain ⟨M, hM2⟩ : ∃ M, most n = M := ⟨_, rfl⟩
    rw [hM2] at hm hnm HOK HS hM ⊢
    have hw2 : IntKind.i64.wrap (4 * (n : Int) + 16) = (M : Int) := by rw [IntKind.wrap_i64]; omega
    have hM4 : (M : Int) ≤ 4096 := by omega
    have HMM := hid (show True from trivial)
    clear hM hM2 h9
    go_enter Try.func13, Try.ntmps13
    go_wp2_with fail
    refine (refLikely_any _ _).mono ?_
    rintro e w5 ⟨rfl, hw⟩
    obtain rfl := hw
    rw [hl]
    go_wp2_with fail
    refine (refLikely_any _ _).mono ?_
    rintro e w5 ⟨rfl, hw⟩
    obtain rfl := hw
    rw [hk]
    go_wp2_with fail
    refine (refShows_any n p _ (by omega) hl HR.out (fun m h => HOK.out m (by omega))).mono ?_
    rintro e w1 ⟨v, rfl, ho, hb⟩
    have HO := hid ho
    have HB := hid hb
    clear ho hb
    go_wp2_with fail
    go_loopw [9, 11] (fun v i wr => ∃ k : Nat, n ≤ k ∧ k ≤ M ∧ i = .int .i64 k ∧ wr.ownsRow w.heap.size 22 1 v (k + 1) (Fb (rowN p k)) ∧ Below w.heap.size w wr ∧ limGo p risk n (M - k) k = limGo p risk n (M - n) n) (fun _ i _ => M - (intOf i).toNat)
    case atStart => exact ⟨n, by omega, hnm, rfl, HO.out, HB.out, rfl⟩
    case round =>
      obtain ⟨k, hnk, hk', rfl, hoR, hbR, hL⟩ := hrel
      have HOR := hid hoR
      have HBR := hid hbR
      have HL := hid hL
      clear hoR hbR hL
      by_cases hlt : k < M
      · have hlt' : (k : Int) < (M : Int) := by have := HMM.out; omega
        obtain ⟨f, hf⟩ : ∃ f, M - k = f + 1 := ⟨M - k - 1, by omega⟩
        have HF := hid hf
        have HF2 := hid (show M - (k + 1) = f by omega)
        clear hf
        go_wp2_with fail
        have hcall := next_any u9 (rowN p k) p wr (Sl_of_own HOR.out) (by rw [rowN_len]; omega) (HOK.out k hlt) HR.out
        rw [rowN_len, ← rowN_succ] at hcall
        refine hcall.mono ?_
        rintro e w2 ⟨v2, rfl, ho2, hb2⟩
        have HO2 := hid (own_mono ho2 HBR.out.size)
        have HB2 := hid (HBR.out.trans (hb2.mono HBR.out.size))
        clear hcall ho2 hb2
        go_wp2_with fail
        have hcall := refBehind_any v2 (rowN p (k + 1)) n w2 (Sl_of_own HO2.out) (by rw [rowN_len]; omega) (by rw [rowN_len]; exact HS.out (k + 1) (by omega))
        rw [rowN_len] at hcall
        refine hcall.mono ?_
        rintro e w5 ⟨rfl, hw⟩
        obtain rfl := hw
        clear hcall
        obtain ⟨b, hb⟩ : ∃ b, over p risk n (k + 1) = b := ⟨_, rfl⟩
        have HOV := hid hb
        have hcmp : (FloatKind.f64.format.order (bsum (rowN p (k + 1)) (k + 1 + 1) (steps (k + 1 + 1) n)) risk == some .gt) = b := hb
        clear hb
        generalize bsum (rowN p (k + 1)) (k + 1 + 1) (steps (k + 1 + 1) n) = S at hcmp ⊢
        cases b
        · go_wp2_with fail
          go_roundw
          case rel =>
            refine ⟨k + 1, by omega, by omega, by go_num, HO2.out, HB2.out, ?_⟩
            rw [← HL.out, HF.out, HF2.out]
            show _ = if over p risk n (k + 1) = true then k else limGo p risk n f (k + 1)
            rw [HOV.out]; rfl
          case measure => simp [intOf]; omega
        · go_wp2_with fail
          go_ret2
          refine ⟨?_, HB2.out⟩
          rw [← HL.out, HF.out]
          show _ = Ending.returned (.tuple #[.int .i64 ((if over p risk n (k + 1) = true then k else limGo p risk n f (k + 1) : Nat) : Int), .int .i64 0])
          rw [HOV.out]; rfl
      · have hge : ¬ (k : Int) < (M : Int) := by have := HMM.out; omega
        have HKM := hid (show k = M by omega)
        go_wp2_with fail
        go_ret2
        refine ⟨?_, HBR.out⟩
        rw [← HL.out, ← HKM.out, Nat.sub_self]
        rfl
  · have hM : most n = 4096 := by unfold most; omega
    obtain ⟨M, hM2⟩ : ∃ M, most n = M := ⟨_, rfl⟩
    rw [hM2] at hm hnm HOK HS hM ⊢
    obtain ⟨X, hX⟩ : ∃ X, 4 * (n : Int) + 16 = X := ⟨_, rfl⟩
    have hw2 : IntKind.i64.wrap (4 * (n : Int) + 16) = X := by rw [IntKind.wrap_i64]; omega
    have hM4 : 4096 < X := by omega
    have HMM := hid hM
    clear hM hM2 h9 hX
    go_enter Try.func13, Try.ntmps13
    go_wp2_with fail
    refine (refLikely_any _ _).mono ?_
    rintro e w5 ⟨rfl, hw⟩
    obtain rfl := hw
    rw [hl]
    go_wp2_with fail
    refine (refLikely_any _ _).mono ?_
    rintro e w5 ⟨rfl, hw⟩
    obtain rfl := hw
    rw [hk]
    go_wp2_with fail
    refine (refShows_any n p _ (by omega) hl HR.out (fun m h => HOK.out m (by omega))).mono ?_
    rintro e w1 ⟨v, rfl, ho, hb⟩
    have HO := hid ho
    have HB := hid hb
    clear ho hb
    go_wp2_with fail
    go_loopw [9, 11] (fun v i wr => ∃ k : Nat, n ≤ k ∧ k ≤ M ∧ i = .int .i64 k ∧ wr.ownsRow w.heap.size 22 1 v (k + 1) (Fb (rowN p k)) ∧ Below w.heap.size w wr ∧ limGo p risk n (M - k) k = limGo p risk n (M - n) n) (fun _ i _ => M - (intOf i).toNat)
    case atStart => exact ⟨n, by omega, hnm, rfl, HO.out, HB.out, rfl⟩
    case round =>
      obtain ⟨k, hnk, hk', rfl, hoR, hbR, hL⟩ := hrel
      have HOR := hid hoR
      have HBR := hid hbR
      have HL := hid hL
      clear hoR hbR hL
      by_cases hlt : k < M
      · have hlt' : (k : Int) < 4096 := by have := HMM.out; omega
        obtain ⟨f, hf⟩ : ∃ f, M - k = f + 1 := ⟨M - k - 1, by omega⟩
        have HF := hid hf
        have HF2 := hid (show M - (k + 1) = f by omega)
        clear hf
        go_wp2_with fail
        have hcall := next_any u9 (rowN p k) p wr (Sl_of_own HOR.out) (by rw [rowN_len]; omega) (HOK.out k hlt) HR.out
        rw [rowN_len, ← rowN_succ] at hcall
        refine hcall.mono ?_
        rintro e w2 ⟨v2, rfl, ho2, hb2⟩
        have HO2 := hid (own_mono ho2 HBR.out.size)
        have HB2 := hid (HBR.out.trans (hb2.mono HBR.out.size))
        clear hcall ho2 hb2
        go_wp2_with fail
        have hcall := refBehind_any v2 (rowN p (k + 1)) n w2 (Sl_of_own HO2.out) (by rw [rowN_len]; omega) (by rw [rowN_len]; exact HS.out (k + 1) (by omega))
        rw [rowN_len] at hcall
        refine hcall.mono ?_
        rintro e w5 ⟨rfl, hw⟩
        obtain rfl := hw
        clear hcall
        obtain ⟨b, hb⟩ : ∃ b, over p risk n (k + 1) = b := ⟨_, rfl⟩
        have HOV := hid hb
        have hcmp : (FloatKind.f64.format.order (bsum (rowN p (k + 1)) (k + 1 + 1) (steps (k + 1 + 1) n)) risk == some .gt) = b := hb
        clear hb
        generalize bsum (rowN p (k + 1)) (k + 1 + 1) (steps (k + 1 + 1) n) = S at hcmp ⊢
        cases b
        · go_wp2_with fail
          go_roundw
          case rel =>
            refine ⟨k + 1, by omega, by omega, by go_num, HO2.out, HB2.out, ?_⟩
            rw [← HL.out, HF.out, HF2.out]
            show _ = if over p risk n (k + 1) = true then k else limGo p risk n f (k + 1)
            rw [HOV.out]; rfl
          case measure => simp [intOf]; omega
        · go_wp2_with fail
          go_ret2
          refine ⟨?_, HB2.out⟩
          rw [← HL.out, HF.out]
          show _ = Ending.returned (.tuple #[.int .i64 ((if over p risk n (k + 1) = true then k else limGo p risk n f (k + 1) : Nat) : Int), .int .i64 0])
          rw [HOV.out]; rfl
      · have hge : ¬ (k : Int) < 4096 := by have := HMM.out; omega
        have HKM := hid (show k = M by omega)
        go_wp2_with fail
        go_ret2
        refine ⟨?_, HBR.out⟩
        rw [← HL.out, ← HKM.out, Nat.sub_self]
        rfl

theorem refLimit_bad (n : Int) (p risk : Nat) (w : World) (h : n < 0 ∨ 1024 < n) :
    Calls Try.prog 13 #[.int .i64 n, .float .f64 p, .float .f64 risk] w fun e w' => e = .returned (.tuple #[.int .i64 0, .int .i64 2]) ∧ w = w' := by
  by_cases h0 : n < 0
  · go_enter Try.func13, Try.ntmps13
    go_wp2_with fail
    go_ret2
    exact ⟨rfl, rfl⟩
  · have h1 : 1024 < n := by omega
    go_enter Try.func13, Try.ntmps13
    go_wp2_with fail
    go_ret2
    exact ⟨rfl, rfl⟩

theorem refLimit_unlikely (n : Int) (p risk : Nat) (w : World) (h0 : 0 ≤ n) (h1 : n ≤ 1024) (hl : (likB p && likB risk) = false) :
    Calls Try.prog 13 #[.int .i64 n, .float .f64 p, .float .f64 risk] w fun e w' => e = .returned (.tuple #[.int .i64 0, .int .i64 250]) ∧ w = w' := by
  obtain ⟨b1, hb1⟩ : ∃ b, likB p = b := ⟨_, rfl⟩
  obtain ⟨b2, hb2⟩ : ∃ b, likB risk = b := ⟨_, rfl⟩
  rw [hb1, hb2] at hl
  have HB1 := hid hb1
  have HB2 := hid hb2
  clear hb1 hb2
  cases b1
  · go_enter Try.func13, Try.ntmps13
    go_wp2_with fail
    refine (refLikely_any p _).mono ?_
    rintro e w5 ⟨rfl, hw⟩
    obtain rfl := hw
    rw [HB1.out]
    go_wp2_with fail
    go_ret2
    exact ⟨rfl, rfl⟩
  · obtain rfl : b2 = false := by simpa using hl
    go_enter Try.func13, Try.ntmps13
    go_wp2_with fail
    refine (refLikely_any p _).mono ?_
    rintro e w5 ⟨rfl, hw⟩
    obtain rfl := hw
    rw [HB1.out]
    go_wp2_with fail
    refine (refLikely_any risk _).mono ?_
    rintro e w5 ⟨rfl, hw⟩
    obtain rfl := hw
    rw [HB2.out]
    go_wp2_with fail
    go_ret2
    exact ⟨rfl, rfl⟩
end Go.Proofs.Ytkabnaemchgeeaa
