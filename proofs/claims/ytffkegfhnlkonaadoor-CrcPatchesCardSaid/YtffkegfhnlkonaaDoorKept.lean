/- Bytes that were lent are as they were: KeptBytes. -/
import Derived.Test.YtffkegfhnlkonaaDoorLent
import Derived.Test.YtffkegfhnlkonaaDoorLinear
import Derived.Deep.QuietTactic
import Derived.BigQuiet
namespace Go.Proofs.YtffkegfhnlkonaaDoor
open Go.RowKit CrcPlain

set_option maxHeartbeats 1000000 in
set_option maxRecDepth 4000 in
theorem kept_any (g : Nat) (v : Value) (l : List (BitVec 8)) (w : World) (hl : l.length ≤ 140737488351240) (ho : Sl w (.slice (some ⟨g, 0, none⟩) (l.length + 12) (l.length + 12)) (Lb (l ++ marks 12))) (hv : Sl w v (Lb l)) :
    Calls Tryd.prog 16 #[.slice (some ⟨g, 0, none⟩) l.length (l.length + 12), v] w fun e w' => e = .returned (.bool true) ∧ Below w.heap.size w w' := by
  obtain ⟨a, c, rfl, hc, hcm, _, _⟩ := Sl_parts hv
  obtain ⟨n, hn⟩ : ∃ n, l.length = n := ⟨_, rfl⟩
  have HO := hid ho
  have HV := hid hv
  rw [hn] at hl hc HO HV ⊢
  have HN := hid hn
  clear ho hv hn
  unfold maxLen at hcm
  go_enter Tryd.func16, Tryd.ntmps16
  go_wp2_with fail
  go_loopw [6] (fun i wr => ∃ k : Nat, k ≤ n + 12 ∧ i = .int .i64 k ∧ Below w.heap.size w wr) (fun i _ => n + 12 - (intOf i).toNat)
  case atStart => exact ⟨0, by omega, rfl, Below.refl _ _⟩
  case round =>
    obtain ⟨k, hk, rfl, hB⟩ := hrel
    have HB := hid hB
    clear hB
    by_cases hlt : k < n + 12
    · have hlt0 : (k : Int) < (n : Int) + 12 := by omega
      obtain ⟨b1, o1, e1, _, q1⟩ := Sl_cell (k := k) (Sl_below HO.out HB.out (Nat.le_refl _)) (by rw [List.length_append, marks_len, HN.out]; omega)
      cases e1
      rw [Nat.zero_add] at q1
      by_cases h2 : k < n
      · have hd1 : decide ((k : Int) < (n : Int)) = true := by simp; omega
        have hlt1 : (k : Int) < (n : Int) := by omega
        have hd2 : decide (n ≤ k) = false := by simp; omega
        obtain ⟨b2, o2, rfl, _, q2⟩ := Sl_cell (k := k) (Sl_below HV.out HB.out (Nat.le_refl _)) (by rw [HN.out]; exact h2)
        have e3 : (l ++ marks 12)[k]'(by rw [List.length_append, marks_len, HN.out]; omega) = l[k]'(by rw [HN.out]; exact h2) := List.getElem_append_left _
        rw [e3] at q1
        clear e3
        generalize l[k]'(by rw [HN.out]; exact h2) = u at q1 q2
        go_wp2_with fail
        go_quiet (fail)
        go_wp2
        go_roundw
        case rel => exact ⟨k + 1, by omega, by go_num, below_drewN HB.out _⟩
        case measure => simp [intOf]; omega
      · obtain ⟨j, hj⟩ : ∃ j, j = k - n := ⟨_, rfl⟩
        have hj2 : j < 12 := by omega
        have hd1 : decide ((k : Int) < (n : Int)) = false := by simp; omega
        have hd3 : decide (k < n) = false := by simp; omega
        have hd2 : decide (n ≤ k) = true := by simp; omega
        have hle : (n : Int) ≤ (k : Int) := by omega
        have hw1 : IntKind.i64.wrap ((k : Int) - n) = (j : Int) := by rw [i64_in _ (by omega)]; omega
        have e3 : (l ++ marks 12)[k]'(by rw [List.length_append, marks_len, HN.out]; omega) = mb 1 j := by
          rw [List.getElem_append_right (by rw [HN.out]; omega)]
          simp [marks, HN.out, hj]
        rw [e3] at q1
        clear e3 hj
        go_wp2_with fail
        go_big_quiet (first | (go_at_call 27; refine Calls.quiet_of_same ((markByte_any 1 j (by decide) (Nat.le_trans (Nat.le_of_lt hj2) (by decide)) _).mono fun e w' h => ⟨h.1, h.2.symm⟩)))
        go_wp2
        go_roundw
        case rel => exact ⟨k + 1, by omega, by go_num, below_drewN HB.out _⟩
        case measure => simp [intOf]; omega
    · obtain rfl : k = n + 12 := by omega
      go_wp2
      go_ret
      exact ⟨rfl, HB.out⟩
end Go.Proofs.YtffkegfhnlkonaaDoor
