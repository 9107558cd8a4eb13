/- The same floats, bit by bit; the fixed answers. -/
import Derived.Test.YtkabnaemchgeeaaRefLimit
import Derived.Test.YtkabnaemchgeeaaRefNearest
import Derived.Deep.QuietTactic
import Derived.BigQuiet
namespace Go.Proofs.Ytkabnaemchgeeaa
open Go.RowKit FloatPlain

theorem below_drewN {B : Nat} {a w : World} (h : Below B a w) (n : Nat) : Below B a (w.drewN n) := h.trans ⟨rfl, rfl, rfl, Nat.le_refl _, fun _ _ => rfl⟩

set_option maxHeartbeats 1000000 in
theorem bits_any (u v : Value) (q : List Nat) (w : World) (hu : Sl w u (Fb q)) (hv : Sl w v (Fb q)) (h1 : q.length ≤ 10000) :
    Calls Try.prog 20 #[u, v] w fun e w' => e = .returned (.bool true) ∧ Below w.heap.size w w' := by
  obtain ⟨a1, c1, rfl, hc1, hm1, _⟩ := Sl_partsF hu
  obtain ⟨a2, c2, rfl, hc2, hm2, _⟩ := Sl_partsF hv
  have HU := hid hu
  have HV := hid hv
  obtain ⟨n, hn⟩ : ∃ n, q.length = n := ⟨_, rfl⟩
  have HN := hid hn
  rw [hn] at hc1 hc2 h1 HU HV ⊢
  unfold maxLen at hm1 hm2
  clear hu hv hn
  go_enter Try.func20, Try.ntmps20
  go_wp2_with fail
  go_loopw [5] (fun i wr => ∃ k : Nat, k ≤ n ∧ i = .int .i64 k ∧ Below w.heap.size w wr) (fun i _ => n - (intOf i).toNat)
  case atStart => exact ⟨0, by omega, rfl, Below.refl _ _⟩
  case round =>
    obtain ⟨k, hk, rfl, hb⟩ := hrel
    have HB := hid hb
    clear hb
    by_cases hlt : k < n
    · have hlt' : (k : Int) < (n : Int) := by omega
      obtain ⟨b1, o1, rfl, _, q1⟩ := Sl_cellF (k := k) (Sl_below HU.out HB.out (Nat.le_refl _)) (by rw [HN.out]; exact hlt)
      obtain ⟨b2, o2, rfl, _, q2⟩ := Sl_cellF (k := k) (Sl_below HV.out HB.out (Nat.le_refl _)) (by rw [HN.out]; exact hlt)
      generalize at0 q k = A at q1 q2
      have hbit := bits_real
      go_wp2_with fail
      go_big_quiet (fail)
      go_wp2
      go_roundw
      case rel => exact ⟨k + 1, by omega, by go_num, below_drewN HB.out _⟩
      case measure => simp [intOf]; omega
    · obtain rfl : k = n := by omega
      go_wp2_with fail
      go_ret
      exact ⟨rfl, HB.out⟩
theorem rows_lik {p : Nat} (h : Lik p) (n : Nat) (hn : n ≤ 1000) : Rows p n := fun m hm => rowN_okay h m (by omega)
theorem sums_lik {p : Nat} (h : Lik p) (n : Nat) (s : Int) (hn : n ≤ 1000) : Sums p n s := fun m hm =>
  sumOkay (rowN_bound h m (by omega)) (by omega) (m + 1) _ (Nat.le_trans (Nat.min_le_left _ _) (by omega))

theorem half_lik : Lik 4602678819172646912 := Or.inl (by unfold one; omega)
/-- 1/4, 1/2, 1/4 -/
def L3 : List Nat := [4598175219545276416, 4602678819172646912, 4598175219545276416]
theorem half_rows : rowN 4602678819172646912 2 = L3 := by kernel_rfl
theorem L3_own (w : World) : (w.alloc (.cells #[.float .f64 4598175219545276416, .float .f64 4602678819172646912, .float .f64 4598175219545276416] 22)).ownsRow w.heap.size 22 1 (.slice (some ⟨w.heap.size, 0, none⟩) 3 3) 3 (Fb L3) :=
  own_of_cells (heap_alloc_new w _) (Nat.le_refl _) (Nat.le_refl _) (by unfold maxLen; omega) rfl rfl
theorem L3_len : L3.length = 3 := rfl
theorem near_it : nv 4609434218613702656 = 2 ∧ FloatPlain.ne 4609434218613702656 = 0 := ⟨by kernel_rfl, by kernel_rfl⟩
theorem limit_it : limGo 4602678819172646912 4596373779694328218 2 (most 2 - 2) 2 = 3 := by kernel_rfl
theorem half_likB : likB 4602678819172646912 = true := by kernel_rfl
theorem risk_likB : likB 4596373779694328218 = true := by kernel_rfl

set_option maxRecDepth 8000 in
set_option maxHeartbeats 2000000 in
theorem awake_any (w : World) : Calls Try.prog 14 #[] w fun e w' => e = .returned (.bool true) ∧ Below w.heap.size w w' := by
  have HL := hid half_lik
  have HR := hid (sub_lik half_lik).1
  go_enter Try.func14, Try.ntmps14
  go_wp2_with fail
  refine (shows_any 2 _ _ (by omega) half_likB HR.out (rows_lik HL.out 2 (by omega))).mono ?_
  rintro e w1 ⟨v, rfl, ho, hb⟩
  rw [half_rows] at ho
  have HO := hid ho
  have HB := hid hb
  clear ho hb
  go_wp2_with fail
  refine (nearest_any _ (by omega) _).mono ?_
  rintro e w2 ⟨rfl, hb⟩
  rw [near_it.1, near_it.2]
  have HB2 := hid (HB.out.trans (hb.mono HB.out.size))
  have HO2 := hid (own_below HO.out hb (Nat.le_refl _))
  clear hb
  go_wp2_with fail
  have hcall := limit_any 2 4602678819172646912 4596373779694328218 w2 (by omega) half_likB risk_likB HR.out (rows_lik HL.out _ (by decide)) (sums_lik HL.out _ _ (by decide))
  rw [show ((2 : Nat) : Int) = 2 from rfl, limit_it] at hcall
  refine hcall.mono ?_
  clear hcall
  rintro e w3 ⟨rfl, hb⟩
  have HB3 := hid (HB2.out.trans (hb.mono HB2.out.size))
  have HO3 := hid (own_below HO2.out hb (Nat.le_refl _))
  clear hb
  go_wp2_with fail
  have hA := Sl_of_own (HO3.out.alloc (.cells #[.float .f64 4598175219545276416, .float .f64 4602678819172646912, .float .f64 4598175219545276416] 22))
  have hB := Sl_of_own (L3_own w3)
  refine (bits_any _ _ L3 _ hA hB (by rw [L3_len]; omega)).mono ?_
  clear hA hB
  rintro e w4 ⟨rfl, hb⟩
  have HB4 := hid ((HB3.out.alloc HB3.out.size _).trans (hb.mono (by have := HB3.out.size; simp; omega)))
  clear hb
  go_wp2_with fail
  go_ret
  exact ⟨rfl, HB4.out⟩
end Go.Proofs.Ytkabnaemchgeeaa
