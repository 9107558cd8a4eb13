/- ApartBytes of two rows. -/
import Derived.Test.YtnaogcpcaabbhaaFlatI
import Derived.Test.YtnaogcpcaabbhaaFlatNil
namespace Go.Proofs.Ytnaogcpcaabbhaa.I
open Go.RowKit FloatPlain

/-- the bag: its one list that is put into -/
structure Bag (S Bg : Nat) (v : Value) (xs : List Value) (w : World) : Prop where
  cell : w.cell? ⟨Bg, 1, none⟩ = some v
  free : w.frozen? ⟨Bg, 1, none⟩ = false
  own : w.ownsRow S 30 1 v xs.length xs
  off : v.ownBlock ≠ some Bg
  rest : ∀ i, i < 19 → i ≠ 1 → w.cell? ⟨Bg, i, none⟩ = some (.slice none 0 0)

theorem results_none {fn : Func} (h : fn.results = #[]) (tmps : Array Value) (P : Program) (w : World) : (results fn tmps).run P w = .ok (.tuple #[]) w := by
  simp [results, h]
theorem bag_block {S Bg : Nat} {v : Value} {xs : List Value} {w w1 : World} {o : Obj} (h : Bag S Bg v xs w) (hg : (w.alloc o).grownBy w1 v.ownBlock) (hlt : Bg < w.heap.size) : w1.heap[Bg]? = w.heap[Bg]? := by
  rw [hg.block Bg (by simp; omega) (fun e => h.off e.symm), Below.heap_alloc _ _ _ hlt]
theorem bag_cell {S Bg : Nat} {v : Value} {xs : List Value} {w w1 : World} {o : Obj} (h : Bag S Bg v xs w) (hg : (w.alloc o).grownBy w1 v.ownBlock) (hlt : Bg < w.heap.size) : w1.cell? ⟨Bg, 1, none⟩ = some v ∧ w1.frozen? ⟨Bg, 1, none⟩ = false := by
  have e := bag_block h hg hlt
  exact ⟨by rw [World.cell?_of_block (w := w) (w' := w1) (a := ⟨Bg, 1, none⟩) e]; exact h.cell, by rw [World.frozen?_of_block (w := w) (w' := w1) (a := ⟨Bg, 1, none⟩) e]; exact h.free⟩

set_option maxRecDepth 8000 in
set_option maxHeartbeats 1000000 in
theorem put_any (S Bg : Nat) (v : Value) (xs : List Value) (a : Option Addr) (m c : Nat) (w : World) (hb : Bag S Bg v xs w) (hS : S ≤ Bg) (hn : xs.length ≤ 100) :
    Calls Try.prog 49 #[.pointer (some ⟨Bg, 0, none⟩), .slice a m c] w fun e w' => e = .returned (.tuple #[]) ∧ (∃ v', Bag S Bg v' (xs ++ [.slice a m c]) w') ∧ Below S w w' := by
  have hlt : Bg < w.heap.size := World.block_lt_of_cell? w _ hb.cell
  obtain ⟨i0, hi, hz0, hz1, hz2⟩ := info_parts infoS
  have HI := hid hi
  have HZ := hid hz2
  have HB := hid hb
  have hcell := hb.cell
  have hfr := hb.free
  have HLT := hid hlt
  obtain ⟨va, vc, hv, _, _⟩ := own_form hb.own
  subst hv
  clear hb hi hz2 hlt
  go_enter Try.func49, Try.ntmps49
  go_wp2_with (at_builtin; refine wpList_append_keeps _ rfl _ _ 55 rfl S 30 i0 (.slice none 0 0) 24 Try.underlying55 HI.out hz0 hz1 HZ.out rfl _ xs.length xs rfl (HB.out.own.alloc _) ⟨w.heap.size, 0, none⟩ 1 1 [.slice a m c] rfl rfl (cell_one_new _ _ _) (by intro u hu; rw [List.mem_singleton] at hu; subst hu; rfl) (by unfold maxLen; omega) (by omega) (by have := HLT.out; simp; omega) ?_; intro v' w1 hown hgrow _ hbl; obtain ⟨va', vc', rfl, _, _⟩ := own_form hown; obtain ⟨hc1, hf1⟩ := bag_cell HB.out hgrow HLT.out)
  refine ⟨rfl, .tuple #[], results_none rfl _ _ _, rfl, ⟨_, ⟨World.cell?_setCell_same _ _ _ hc1, by rw [World.frozen?_setCell]; exact hf1, ?_, ?_, fun i hi h4 => ?_⟩⟩, ?_⟩
  · have hoff : (Value.slice va' (xs.length + 1) vc').ownBlock ≠ some Bg := by
      intro e
      rcases hbl Bg e with h | h
      · exact HB.out.off h
      · have := HLT.out; simp at h; omega
    have h5 := ownsRow_setCell_other (a := ⟨Bg, 1, none⟩) hown hoff (Value.slice va' (xs.length + 1) vc')
    rw [List.length_append]
    exact h5
  · intro e
    rcases hbl Bg e with h | h
    · exact HB.out.off h
    · have := HLT.out; simp at h; omega
  · rw [World.cell?_setCell_other _ _ _ _ (by intro hc; injection hc with _ h2; exact h4 h2.symm)]
    rw [World.cell?_of_block (w := w) (w' := w1) (a := ⟨Bg, i, none⟩) (bag_block HB.out hgrow HLT.out)]
    exact HB.out.rest i hi h4
  · exact (((Below.refl S w).alloc (by have := HLT.out; omega) _).grown hgrow (by have := HLT.out; simp; omega) (fun k hk => (HB.out.own.lt k hk).1)).setCell (p := ⟨Bg, 1, none⟩) hS _

set_option maxRecDepth 8000 in
set_option maxHeartbeats 4000000 in
theorem bag_any (B S Bg L c : Nat) (a : Nat → Option Addr) (n cp : Nat → Nat) (xs : Nat → List Nat) (w : World) (hb : Bag S Bg (.slice (some ⟨L, 0, none⟩) 2 c) [row a n cp 0, row a n cp 1] w)
    (hT : Two B L a n cp) (hO : ∀ k, k < 2 → w.ownsRow B 3 1 (row a n cp k) (n k) (Eb (xs k))) (hRB : ∀ k, k < 2 → (row a n cp k).ownBlock ≠ some Bg) (hBw : B ≤ w.heap.size) :
    Calls Try.prog 48 #[.pointer (some ⟨Bg, 0, none⟩)] w fun e w' => e = .returned (.bool true) ∧ Below B w w' ∧ ∀ q, q < w.heap.size → (∀ k, k < 2 → (row a n cp k).ownBlock ≠ some q) → w'.heap[q]? = w.heap[q]? := by
  have hlt : Bg < w.heap.size := World.block_lt_of_cell? w _ hb.cell
  have BAG := hid hb
  have T := hid hT
  have HO := hid hO
  have HRB := hid hRB
  have HLT := hid hlt
  have HBW := hid hBw
  have HLc : Hid (∀ k, k < 2 → w.cell? ⟨L, k, none⟩ = some (row a n cp k)) := hid fun k hk => by
    rw [hb.own.cellAt k (by simpa using hk)]
    rcases (show k = 0 ∨ k = 1 by omega) with rfl | rfl <;> rfl
  have HLlt : Hid (L < w.heap.size) := hid (own_lt hb.own rfl)
  have HB0 : Hid (Below w.heap.size w w) := hid (Below.refl _ _)
  have hc0 : w.cell? ⟨Bg, 0, none⟩ = some (.slice none 0 0) := hb.rest 0 (by omega) (by omega)
  clear hb hT hO hRB hlt hBw
  go_enter Try.func48, Try.ntmps48
  go_wp2_with fail
  refine (flat56_nil _).mono ?_
  rintro e w1 ⟨rfl, hb⟩
  have HB1 := hid (HB0.out.trans (hb.mono HB0.out.size))
  have hc1 : w1.cell? ⟨Bg, 1, none⟩ = some (.slice (some ⟨L, 0, none⟩) 2 c) := by
    rw [HB1.out.cell (p := ⟨Bg, 1, none⟩) HLT.out]; exact BAG.out.cell
  clear hb hc0
  go_wp2_with fail
  have hMX : Mem B L a n cp xs w1 w1 := ⟨fun k hk => own_below (HO.out k hk) HB1.out (Nat.le_refl _), fun k hk => by
    rw [HB1.out.cell (p := ⟨L, k, none⟩) HLlt.out]; exact HLc.out k hk, Below.refl _ _, fun _ _ _ => rfl⟩
  refine (flat_any B L c a n cp xs w1 T.out hMX (Nat.le_trans HBW.out HB1.out.size)).mono ?_
  clear hMX
  rintro e w2 ⟨rfl, hb, hp⟩
  have HF := hid (HB1.out.mono HBW.out |>.trans hb)
  have hbg : w2.heap[Bg]? = w1.heap[Bg]? := hp Bg (Nat.lt_of_lt_of_le HLT.out HB1.out.size) HRB.out
  have REST : Hid (∀ i, i < 19 → i ≠ 1 → w2.cell? ⟨Bg, i, none⟩ = some (.slice none 0 0)) := hid fun i hi h4 => by
    rw [World.cell?_of_block (w := w1) (w' := w2) (a := ⟨Bg, i, none⟩) hbg, HB1.out.cell (p := ⟨Bg, i, none⟩) HLT.out]
    exact BAG.out.rest i hi h4
  have HLT5 := hid (Nat.lt_of_lt_of_le HLT.out (Nat.le_trans HB1.out.size hb.size))
  have HB2 : Hid (Below w2.heap.size w2 w2) := hid (Below.refl _ _)
  have HSZ5 := hid (Nat.le_trans HBW.out (Nat.le_trans HB1.out.size hb.size))
  have HSZX := hid (Nat.le_trans HB1.out.size hb.size)
  have HPX := hid hp
  have hc2 : w2.cell? ⟨Bg, 2, none⟩ = some (.slice none 0 0) := REST.out 2 (by omega) (by omega)
  clear hb hp hbg hc1
  go_wp2_with fail
  refine (flat58_nil _).mono ?_
  rintro e w3 ⟨rfl, hb⟩
  have HB3 := hid (HB2.out.trans (hb.mono HB2.out.size))
  have hc3 : w3.cell? ⟨Bg, 3, none⟩ = some (.slice none 0 0) := by
    rw [HB3.out.cell (p := ⟨Bg, 3, none⟩) HLT5.out]; exact REST.out 3 (by omega) (by omega)
  clear hb hc2
  go_wp2_with fail
  refine (flat59_nil _).mono ?_
  rintro e w4 ⟨rfl, hb⟩
  have HB4 := hid (HB3.out.trans (hb.mono HB3.out.size))
  have hc4 : w4.cell? ⟨Bg, 4, none⟩ = some (.slice none 0 0) := by
    rw [HB4.out.cell (p := ⟨Bg, 4, none⟩) HLT5.out]; exact REST.out 4 (by omega) (by omega)
  clear hb hc3
  go_wp2_with fail
  refine (flat60_nil _).mono ?_
  rintro e w5 ⟨rfl, hb⟩
  have HB5 := hid (HB4.out.trans (hb.mono HB4.out.size))
  have hc5 : w5.cell? ⟨Bg, 5, none⟩ = some (.slice none 0 0) := by
    rw [HB5.out.cell (p := ⟨Bg, 5, none⟩) HLT5.out]; exact REST.out 5 (by omega) (by omega)
  clear hb hc4
  go_wp2_with fail
  refine (flat61_nil _).mono ?_
  rintro e w6 ⟨rfl, hb⟩
  have HB6 := hid (HB5.out.trans (hb.mono HB5.out.size))
  have hc6 : w6.cell? ⟨Bg, 6, none⟩ = some (.slice none 0 0) := by
    rw [HB6.out.cell (p := ⟨Bg, 6, none⟩) HLT5.out]; exact REST.out 6 (by omega) (by omega)
  clear hb hc5
  go_wp2_with fail
  refine (flat62_nil _).mono ?_
  rintro e w7 ⟨rfl, hb⟩
  have HB7 := hid (HB6.out.trans (hb.mono HB6.out.size))
  have hc7 : w7.cell? ⟨Bg, 7, none⟩ = some (.slice none 0 0) := by
    rw [HB7.out.cell (p := ⟨Bg, 7, none⟩) HLT5.out]; exact REST.out 7 (by omega) (by omega)
  clear hb hc6
  go_wp2_with fail
  refine (flat63_nil _).mono ?_
  rintro e w8 ⟨rfl, hb⟩
  have HB8 := hid (HB7.out.trans (hb.mono HB7.out.size))
  have hc8 : w8.cell? ⟨Bg, 8, none⟩ = some (.slice none 0 0) := by
    rw [HB8.out.cell (p := ⟨Bg, 8, none⟩) HLT5.out]; exact REST.out 8 (by omega) (by omega)
  clear hb hc7
  go_wp2_with fail
  refine (flat64_nil _).mono ?_
  rintro e w9 ⟨rfl, hb⟩
  have HB9 := hid (HB8.out.trans (hb.mono HB8.out.size))
  have hc9 : w9.cell? ⟨Bg, 9, none⟩ = some (.slice none 0 0) := by
    rw [HB9.out.cell (p := ⟨Bg, 9, none⟩) HLT5.out]; exact REST.out 9 (by omega) (by omega)
  clear hb hc8
  go_wp2_with fail
  refine (flat65_nil _).mono ?_
  rintro e w10 ⟨rfl, hb⟩
  have HB10 := hid (HB9.out.trans (hb.mono HB9.out.size))
  have hc10 : w10.cell? ⟨Bg, 10, none⟩ = some (.slice none 0 0) := by
    rw [HB10.out.cell (p := ⟨Bg, 10, none⟩) HLT5.out]; exact REST.out 10 (by omega) (by omega)
  clear hb hc9
  go_wp2_with fail
  refine (flat66_nil _).mono ?_
  rintro e w11 ⟨rfl, hb⟩
  have HB11 := hid (HB10.out.trans (hb.mono HB10.out.size))
  have hc11 : w11.cell? ⟨Bg, 11, none⟩ = some (.slice none 0 0) := by
    rw [HB11.out.cell (p := ⟨Bg, 11, none⟩) HLT5.out]; exact REST.out 11 (by omega) (by omega)
  clear hb hc10
  go_wp2_with fail
  refine (flat67_nil _).mono ?_
  rintro e w12 ⟨rfl, hb⟩
  have HB12 := hid (HB11.out.trans (hb.mono HB11.out.size))
  have hc12 : w12.cell? ⟨Bg, 12, none⟩ = some (.slice none 0 0) := by
    rw [HB12.out.cell (p := ⟨Bg, 12, none⟩) HLT5.out]; exact REST.out 12 (by omega) (by omega)
  clear hb hc11
  go_wp2_with fail
  refine (flat68_nil _).mono ?_
  rintro e w13 ⟨rfl, hb⟩
  have HB13 := hid (HB12.out.trans (hb.mono HB12.out.size))
  have hc13 : w13.cell? ⟨Bg, 13, none⟩ = some (.slice none 0 0) := by
    rw [HB13.out.cell (p := ⟨Bg, 13, none⟩) HLT5.out]; exact REST.out 13 (by omega) (by omega)
  clear hb hc12
  go_wp2_with fail
  refine (flat69_nil _).mono ?_
  rintro e w14 ⟨rfl, hb⟩
  have HB14 := hid (HB13.out.trans (hb.mono HB13.out.size))
  have hc14 : w14.cell? ⟨Bg, 14, none⟩ = some (.slice none 0 0) := by
    rw [HB14.out.cell (p := ⟨Bg, 14, none⟩) HLT5.out]; exact REST.out 14 (by omega) (by omega)
  clear hb hc13
  go_wp2_with fail
  refine (flat70_nil _).mono ?_
  rintro e w15 ⟨rfl, hb⟩
  have HB15 := hid (HB14.out.trans (hb.mono HB14.out.size))
  have hc15 : w15.cell? ⟨Bg, 15, none⟩ = some (.slice none 0 0) := by
    rw [HB15.out.cell (p := ⟨Bg, 15, none⟩) HLT5.out]; exact REST.out 15 (by omega) (by omega)
  clear hb hc14
  go_wp2_with fail
  refine (flat71_nil _).mono ?_
  rintro e w16 ⟨rfl, hb⟩
  have HB16 := hid (HB15.out.trans (hb.mono HB15.out.size))
  have hc16 : w16.cell? ⟨Bg, 16, none⟩ = some (.slice none 0 0) := by
    rw [HB16.out.cell (p := ⟨Bg, 16, none⟩) HLT5.out]; exact REST.out 16 (by omega) (by omega)
  clear hb hc15
  go_wp2_with fail
  refine (flat72_nil _).mono ?_
  rintro e w17 ⟨rfl, hb⟩
  have HB17 := hid (HB16.out.trans (hb.mono HB16.out.size))
  have hc17 : w17.cell? ⟨Bg, 17, none⟩ = some (.slice none 0 0) := by
    rw [HB17.out.cell (p := ⟨Bg, 17, none⟩) HLT5.out]; exact REST.out 17 (by omega) (by omega)
  clear hb hc16
  go_wp2_with fail
  refine (flat73_nil _).mono ?_
  rintro e w18 ⟨rfl, hb⟩
  have HB18 := hid (HB17.out.trans (hb.mono HB17.out.size))
  have hc18 : w18.cell? ⟨Bg, 18, none⟩ = some (.slice none 0 0) := by
    rw [HB18.out.cell (p := ⟨Bg, 18, none⟩) HLT5.out]; exact REST.out 18 (by omega) (by omega)
  clear hb hc17
  go_wp2_with fail
  refine (flat74_nil _).mono ?_
  rintro e w19 ⟨rfl, hb⟩
  have HB19 := hid (HB18.out.trans (hb.mono HB18.out.size))
  clear hb hc18
  go_wp2_with fail
  go_ret
  exact ⟨rfl, HF.out.trans (HB19.out.mono HSZ5.out), fun q hq hr => by rw [HB19.out.block q (Nat.lt_of_lt_of_le hq HSZX.out), HPX.out q (Nat.lt_of_lt_of_le hq HB1.out.size) hr, HB1.out.block q hq]⟩

theorem far_of {B : Nat} {a : Nat → Option Addr} {n cp : Nat → Nat} (h : Far (row a n cp 0) (row a n cp 1)) : ∀ j k, j < 2 → k < 2 → j ≠ k → Far (row a n cp j) (row a n cp k) := by
  intro j k hj hk hjk
  rcases (show (j = 0 ∧ k = 1) ∨ (j = 1 ∧ k = 0) by omega) with ⟨rfl, rfl⟩ | ⟨rfl, rfl⟩
  · exact h
  · exact h.symm

end Go.Proofs.Ytnaogcpcaabbhaa.I
