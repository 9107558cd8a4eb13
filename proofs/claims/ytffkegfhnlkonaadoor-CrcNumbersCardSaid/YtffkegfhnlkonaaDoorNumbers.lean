/- The law CrcNumbers, by its contracts. -/
import Derived.Test.YtffkegfhnlkonaaDoorAwake
namespace Go.Proofs.YtffkegfhnlkonaaDoor
open Go.RowKit CrcPlain

theorem heap_four (w : World) (o1 o2 o3 o4 : Obj) : ((((w.alloc o1).alloc o2).alloc o3).alloc o4).heap[w.heap.size + 3]? = some o4 := by
  have h := heap_alloc_new (((w.alloc o1).alloc o2).alloc o3) o4
  rw [show (((w.alloc o1).alloc o2).alloc o3).heap.size = w.heap.size + 3 by simp] at h
  exact h

set_option maxRecDepth 100000 in
theorem crcNumbers_any (w : World) (hT : Tab w) : Calls Tryd.prog 6 #[] w fun e w' => e = .returned (.bool true) ∧ Below w.heap.size w w' := by
  have HT := hid hT
  have hTs := hT.size
  clear hT
  have kc := run_lit
  go_enter Tryd.func6, Tryd.ntmps6
  go_wp2_with fail
  refine (patch_bad _ (lit [97, 98, 99, 100]) 1 0 _ (Sl_block_lit (heap_alloc_new w _) rfl rfl (by decide)) (Or.inr (by decide))).mono ?_
  rintro e w1 ⟨rfl, hw⟩
  obtain rfl := hw
  go_wp2_with fail
  refine (patch_bad _ (lit [97, 98, 99]) 0 0 _ (Sl_block_lit (heap_two w _ _) rfl rfl (by decide)) (Or.inr (by decide))).mono ?_
  rintro e w1 ⟨rfl, hw⟩
  obtain rfl := hw
  go_wp2_with fail
  refine (sum_any _ [] _ (Sl_nil _) (Tab_below HT.out (((Below.refl w.heap.size w).alloc (Nat.le_refl _) _).alloc (by simp) _) hTs)).mono ?_
  rintro e w1 ⟨rfl, hw⟩
  obtain rfl := hw
  rw [show J (more 0#32 (ws [])) = 0 from by decide +kernel]
  go_wp2_with fail
  refine (sum_any _ (lit [0]) _ (Sl_block_lit (heap_three w _ _ _) rfl rfl (by decide)) (Tab_below HT.out ((((Below.refl w.heap.size w).alloc (Nat.le_refl _) _).alloc (by simp) _).alloc (by simp; omega) _) hTs)).mono ?_
  rintro e w1 ⟨rfl, hw⟩
  obtain rfl := hw
  rw [show J (more 0#32 (ws (lit [0]))) = 3523407757 from by decide +kernel]
  go_wp2_with fail
  refine (sum_any _ (lit [97]) _ (Sl_block_lit (heap_four w _ _ _ _) rfl rfl (by decide)) (Tab_below HT.out (((((Below.refl w.heap.size w).alloc (Nat.le_refl _) _).alloc (by simp) _).alloc (by simp; omega) _).alloc (by simp; omega) _) hTs)).mono ?_
  rintro e w1 ⟨rfl, hw⟩
  obtain rfl := hw
  rw [show J (more 0#32 (ws (lit [97]))) = 3904355907 from by decide +kernel]
  go_wp2_with fail
  refine (more_any (BitVec.ofNat 32 891568578) _ (by decide) _ [] _ (Sl_nil _) (Tab_below HT.out (((((Below.refl w.heap.size w).alloc (Nat.le_refl _) _).alloc (by simp) _).alloc (by simp; omega) _).alloc (by simp; omega) _) hTs)).mono ?_
  rintro e w1 ⟨rfl, hw⟩
  obtain rfl := hw
  rw [show J (more (BitVec.ofNat 32 891568578) (ws [])) = 891568578 from by decide +kernel]
  go_wp2_with fail
  refine (join_any 5#32 3#32 _ _ (-9) (by decide) (by decide) (by decide) _).mono ?_
  rintro e w3 ⟨rfl, hw⟩
  obtain rfl := hw
  rw [show J (steps (8 * (-9 : Int).toNat) 5#32 ^^^ 3#32) = 6 from by decide +kernel]
  go_wp2_with fail
  refine (awake_any _ (Tab_below HT.out (((((Below.refl w.heap.size w).alloc (Nat.le_refl _) _).alloc (by simp) _).alloc (by simp; omega) _).alloc (by simp; omega) _) hTs)).mono ?_
  rintro e w4 ⟨rfl, hb4⟩
  have HB4 := hid hb4
  clear hb4
  go_wp2_with fail
  go_ret
  exact ⟨rfl, ((((((Below.refl w.heap.size w).alloc (Nat.le_refl _) _).alloc (by simp) _).alloc (by simp; omega) _).alloc (by simp; omega) _).trans (HB4.out.mono (by simp; omega)))⟩

end Go.Proofs.YtffkegfhnlkonaaDoor
