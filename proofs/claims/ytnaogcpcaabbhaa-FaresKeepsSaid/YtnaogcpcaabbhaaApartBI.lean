/- ApartBytes of two rows, whole. -/
import Derived.Test.YtnaogcpcaabbhaaApartI
namespace Go.Proofs.Ytnaogcpcaabbhaa.I
open Go.RowKit FloatPlain

theorem bag_new (w : World) : Bag w.heap.size w.heap.size (.slice none 0 0) [] (w.alloc (.cells #[.slice none 0 0, .slice none 0 0, .slice none 0 0, .slice none 0 0, .slice none 0 0, .slice none 0 0, .slice none 0 0, .slice none 0 0, .slice none 0 0, .slice none 0 0, .slice none 0 0, .slice none 0 0, .slice none 0 0, .slice none 0 0, .slice none 0 0, .slice none 0 0, .slice none 0 0, .slice none 0 0, .slice none 0 0] 87)) := by
  have e : (#[.slice none 0 0, .slice none 0 0, .slice none 0 0, .slice none 0 0, .slice none 0 0, .slice none 0 0, .slice none 0 0, .slice none 0 0, .slice none 0 0, .slice none 0 0, .slice none 0 0, .slice none 0 0, .slice none 0 0, .slice none 0 0, .slice none 0 0, .slice none 0 0, .slice none 0 0, .slice none 0 0, .slice none 0 0] : Array Value) = Array.replicate 19 (.slice none 0 0) := rfl
  rw [e]
  have h : ∀ i, i < 19 → (w.alloc (.cells (Array.replicate 19 (Value.slice none 0 0)) 87)).cell? ⟨w.heap.size, i, none⟩ = some (.slice none 0 0) := fun i hi => by
    rw [World.cell?_alloc_at _ _ _ _ rfl]
    simp [hi]
  exact ⟨h 1 (by omega), World.frozen?_alloc_new _ _ _ _, World.ownsRow_nil _ _ _ _, by simp [Value.ownBlock], fun i hi _ => h i hi⟩

set_option maxRecDepth 8000 in
set_option maxHeartbeats 4000000 in
theorem apart_any (B L0 c0 : Nat) (a : Nat → Option Addr) (n cp : Nat → Nat) (xs : Nat → List Nat) (w : World) (hO : ∀ k, k < 2 → w.ownsRow B 3 1 (row a n cp k) (n k) (Eb (xs k)))
    (hF : Far (row a n cp 0) (row a n cp 1)) (hN : ∀ k, k < 2 → n k ≤ 1000000) (hC : ∀ k, k < 2 → w.cell? ⟨L0, k, none⟩ = some (row a n cp k)) (hBw : B ≤ w.heap.size) :
    Calls Try.prog 32 #[.slice (some ⟨L0, 0, none⟩) 2 c0] w fun e w' => e = .returned (.bool true) ∧ Below B w w' ∧ ∀ q, q < w.heap.size → (∀ k, k < 2 → (row a n cp k).ownBlock ≠ some q) → w'.heap[q]? = w.heap[q]? := by
  have HO := hid hO
  have HF := hid hF
  have HN := hid hN
  have HC := hid hC
  have HBW := hid hBw
  have HL0 := hid (World.block_lt_of_cell? w _ (hC 0 (by omega)))
  have BAG := hid (bag_new w)
  have HB0 := hid ((Below.refl w.heap.size w).alloc (Nat.le_refl _) (.cells #[.slice none 0 0, .slice none 0 0, .slice none 0 0, .slice none 0 0, .slice none 0 0, .slice none 0 0, .slice none 0 0, .slice none 0 0, .slice none 0 0, .slice none 0 0, .slice none 0 0, .slice none 0 0, .slice none 0 0, .slice none 0 0, .slice none 0 0, .slice none 0 0, .slice none 0 0, .slice none 0 0, .slice none 0 0] 87))
  clear hO hF hN hC hBw
  go_enter Try.func32, Try.ntmps32
  go_wp2_with fail
  go_loopw [4] (fun s wr => ∃ k : Nat, k ≤ 2 ∧ s = .int .i64 k ∧ (∃ v, Bag w.heap.size w.heap.size v ([row a n cp 0, row a n cp 1].take k) wr) ∧ Below w.heap.size w wr) (fun s _ => 2 - (intOf s).toNat)
  case atStart => exact ⟨0, by omega, rfl, ⟨_, BAG.out⟩, HB0.out⟩
  case round =>
    obtain ⟨k, hk, rfl, ⟨v, hb⟩, hbl⟩ := hrel
    have HBG := hid hb
    have HBL := hid hbl
    clear hb hbl
    by_cases hlt : k < 2
    · have hlt' : (k : Int) < 2 := by omega
      have hcl : wr.cell? ⟨L0, k, none⟩ = some (.slice (a k) (n k) (cp k)) := by
        rw [HBL.out.cell (p := ⟨L0, k, none⟩) HL0.out]; exact HC.out k hlt
      go_wp2_with fail
      refine (put_any w.heap.size w.heap.size v _ (a k) (n k) (cp k) wr HBG.out (Nat.le_refl _) (by simp; omega)).mono ?_
      rintro e w2 ⟨rfl, hv, hb⟩
      have HV := hid hv
      have HB2 := hid (HBL.out.trans hb)
      clear hv hb
      go_wp2_with fail
      go_roundw
      case rel =>
        refine ⟨k + 1, by omega, by go_num, ?_, HB2.out⟩
        have h9 := HV.out
        have e9 : [row a n cp 0, row a n cp 1].take k ++ [Value.slice (a k) (n k) (cp k)] = [row a n cp 0, row a n cp 1].take (k + 1) := by
          rcases (show k = 0 ∨ k = 1 by omega) with rfl | rfl <;> rfl
        rw [e9] at h9
        exact h9
      case measure => simp [intOf]; omega
    · obtain rfl : k = 2 := by omega
      have h22 : ¬ ((2 : Int) < 2) := by omega
      have hbag := HBG.out
      rw [show [row a n cp 0, row a n cp 1].take 2 = [row a n cp 0, row a n cp 1] from rfl] at hbag
      have hown : wr.ownsRow w.heap.size 30 1 v 2 [row a n cp 0, row a n cp 1] := hbag.own
      obtain ⟨L, c, rfl, _, hLS⟩ : ∃ L c, v = .slice (some ⟨L, 0, none⟩) 2 c ∧ 2 ≤ c ∧ w.heap.size ≤ L := by
        rcases hown.2 with ⟨_, h0⟩ | ⟨g, cap, cur, hv, hb, _, hnc, _⟩
        · omega
        · exact ⟨g, cap, hv, hnc, hb⟩
      have hrow : ∀ k, k < 2 → ∀ q, (row a n cp k).ownBlock = some q → q < w.heap.size := fun k hk q hq => own_lt (HO.out k hk) hq
      have hT : Two B L a n cp := ⟨far_of (B := B) HF.out, fun k hk e => by have := hrow k hk _ e; omega, HN.out⟩
      have hOw : ∀ k, k < 2 → wr.ownsRow B 3 1 (row a n cp k) (n k) (Eb (xs k)) := fun k hk => own_below (HO.out k hk) HBL.out (Nat.le_refl _)
      have hRB : ∀ k, k < 2 → (row a n cp k).ownBlock ≠ some w.heap.size := fun k hk e => by have := hrow k hk _ e; omega
      have HCALL := hid (bag_any B w.heap.size w.heap.size L c a n cp xs wr hbag hT hOw hRB (Nat.le_trans HBW.out HBL.out.size))
      clear hbag hown hLS hrow hT hOw hRB
      go_wp2_with fail
      refine HCALL.out.mono ?_
      rintro e w2 ⟨rfl, hb, hp⟩
      have HB2 := hid hb
      have HP2 := hid hp
      clear hb hp
      go_wp2_with fail
      go_ret
      exact ⟨rfl, (HBL.out.mono HBW.out).trans HB2.out, fun q hq hr => by rw [HP2.out q (Nat.lt_of_lt_of_le hq HBL.out.size) hr, HBL.out.block q hq]⟩
end Go.Proofs.Ytnaogcpcaabbhaa.I
