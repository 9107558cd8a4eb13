/- Bytes that were lent are written over: OverBytes. -/
import Derived.Test.YtffkegfhnlkonaaDoorApart
namespace Go.Proofs.YtffkegfhnlkonaaDoor
open Go.RowKit CrcPlain

set_option maxHeartbeats 1000000 in
set_option maxRecDepth 4000 in
theorem over_any (base g n : Nat) (zs : List (BitVec 8)) (w : World) (hl : n ≤ 140737488351240) (ho : w.ownsRow base 5 1 (.slice (some ⟨g, 0, none⟩) (n + 12) (n + 12)) (n + 12) (Lb zs)) :
    Calls Tryd.prog 23 #[.slice (some ⟨g, 0, none⟩) n (n + 12)] w fun e w' => e = .returned (.tuple #[]) ∧ Below base w w' ∧ ∀ q, q ≠ g → w'.heap[q]? = w.heap[q]? := by
  have hbg : base ≤ g := (ho.lt g rfl).1
  have HBG := hid hbg
  have HO := hid ho
  clear hbg ho
  go_enter Tryd.func23, Tryd.ntmps23
  go_wp2_with fail
  go_loopw [3] (fun i wr => ∃ k : Nat, k ≤ n + 12 ∧ i = .int .i64 k ∧ (∃ ys, wr.ownsRow base 5 1 (.slice (some ⟨g, 0, none⟩) (n + 12) (n + 12)) (n + 12) (Lb ys)) ∧ Below base w wr ∧ ∀ q, q ≠ g → wr.heap[q]? = w.heap[q]?) (fun i _ => n + 12 - (intOf i).toNat)
  case atStart => exact ⟨0, by omega, rfl, ⟨_, HO.out⟩, Below.refl _ _, fun _ _ => rfl⟩
  case round =>
    obtain ⟨k, hk, rfl, ⟨ys, ho⟩, hb, hp⟩ := hrel
    have HOR := hid ho
    have HB := hid hb
    have HP := hid hp
    clear ho hb hp
    by_cases hlt : k < n + 12
    · have hlt0 : (k : Int) < (n : Int) + 12 := by omega
      have hcl : ∃ u, wr.cell? ⟨g, k, none⟩ = some u := by
        rw [HOR.out.cellAt k (by omega)]
        have := HOR.out.1
        exact ⟨_, List.getElem?_eq_getElem (by omega)⟩
      obtain ⟨u, hcu⟩ := hcl
      have hfr := HOR.out.frozenAt k
      go_wp2_with fail
      refine (markByte_any 2 k (by omega) (by omega) _).mono ?_
      rintro e w1 ⟨rfl, hw⟩
      obtain rfl := hw
      go_wp2_with fail
      go_roundw
      case rel =>
        refine ⟨k + 1, by omega, by go_num, ⟨ys.set k (mb 2 k), ?_⟩, HB.out.setCell (p := ⟨g, k, none⟩) HBG.out _, fun q hq => ?_⟩
        · have := (HOR.out.stored k (.int .u8 (K (mb 2 k)))).1
          rw [Lb_set] at this
          exact this
        · rw [Below.heap_setCell _ _ _ _ (by show q ≠ g; exact hq)]
          exact HP.out q hq
      case measure => simp [intOf]; omega
    · obtain rfl : k = n + 12 := by omega
      go_wp2_with fail
      refine ⟨rfl, .tuple #[], results_none rfl _ _ _, rfl, HB.out, HP.out⟩
end Go.Proofs.YtffkegfhnlkonaaDoor
