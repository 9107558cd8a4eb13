/- The fixed answers that each statement of this layer asks first. -/
import Derived.Test.YtffkegfhnlkonaaDoorPatch
import Derived.Lib.SlBytesConst
import Derived.Laws.BytesArg
namespace Go.Proofs.YtffkegfhnlkonaaDoor
open Go.RowKit CrcPlain

def lit (l : List Nat) : List (BitVec 8) := l.map (BitVec.ofNat 8)

theorem Sl_block_lit {w : World} {b n : Nat} {C : Array Value} {e : TypeId} {fr : Nat × Nat} {l : List (BitVec 8)} (h : w.heap[b]? = some (.cells C e fr)) (hC : C.toList = Lb l) (hn : n = l.length) (hm : n ≤ maxLen) : Sl w (.slice (some ⟨b, 0, none⟩) n n) (Lb l) := by
  subst hn
  refine ⟨_, l.length, by rw [Lb_len], by rw [Lb_len]; exact Nat.le_refl _, hm, Or.inr ⟨b, 0, rfl, (Array.getElem?_eq_some_iff.1 h).1, fun j u hj => ?_⟩⟩
  have hsz : C[j]? = some u := by
    rw [← hC] at hj
    simpa using hj
  simp [World.cell?, h, hsz]

theorem run_lit (w : World) (C : Array Value) (n c b : Nat) (hb : b = w.heap.size) : (convert 23 23 (.slice (some ⟨b, 0, none⟩) n c)).run Tryd.prog (w.alloc (.cells C 5)) = .ok (.slice (some ⟨b, 0, none⟩) n c) (w.alloc (.cells C 5 (C.size, C.size + 1))) := by
  subst hb; exact Lib.run_convert_bytes_const (P := Tryd.prog) w 23 5 C n c Tryd.underlying23 Tryd.underlying5

theorem heap_two (w : World) (o1 o2 : Obj) : ((w.alloc o1).alloc o2).heap[w.heap.size + 1]? = some o2 := by
  have h := heap_alloc_new (w.alloc o1) o2
  rw [show (w.alloc o1).heap.size = w.heap.size + 1 by simp] at h
  exact h
theorem heap_three (w : World) (o1 o2 o3 : Obj) : (((w.alloc o1).alloc o2).alloc o3).heap[w.heap.size + 2]? = some o3 := by
  have h := heap_alloc_new ((w.alloc o1).alloc o2) o3
  rw [show ((w.alloc o1).alloc o2).heap.size = w.heap.size + 2 by simp] at h
  exact h
theorem heap_one (w : World) (o1 o2 : Obj) : ((w.alloc o1).alloc o2).heap[w.heap.size]? = some o1 := by
  rw [Below.heap_alloc _ _ _ (by simp)]
  exact heap_alloc_new w o1

set_option maxRecDepth 100000 in
theorem awake_any (w : World) (hT : Tab w) : Calls Tryd.prog 17 #[] w fun e w' => e = .returned (.bool true) ∧ Below w.heap.size w w' := by
  have HT := hid hT
  have hTs := hT.size
  clear hT
  have kc := run_lit
  go_enter Tryd.func17, Tryd.ntmps17
  go_wp2_with fail
  have t1 : Tab ((w.alloc (.cells #[.int .u8 97, .int .u8 98, .int .u8 99, .int .u8 100] 5 (4, 5))).alloc (.cells #[.int .u8 101, .int .u8 102, .int .u8 103, .int .u8 104] 5 (4, 5))) :=
    Tab_below HT.out (((Below.refl w.heap.size w).alloc (Nat.le_refl _) _).alloc (by simp) _) hTs
  have T1 := hid t1
  clear t1
  have s1 : Sl ((w.alloc (.cells #[.int .u8 97, .int .u8 98, .int .u8 99, .int .u8 100] 5 (4, 5))).alloc (.cells #[.int .u8 101, .int .u8 102, .int .u8 103, .int .u8 104] 5 (4, 5))) (.slice (some ⟨w.heap.size + 1, 0, none⟩) 4 4) (Lb (lit [101, 102, 103, 104])) :=
    Sl_block_lit (heap_two w _ _) rfl rfl (by decide)
  have S1 := hid s1
  have s0 : Sl ((w.alloc (.cells #[.int .u8 97, .int .u8 98, .int .u8 99, .int .u8 100] 5 (4, 5))).alloc (.cells #[.int .u8 101, .int .u8 102, .int .u8 103, .int .u8 104] 5 (4, 5))) (.slice (some ⟨w.heap.size, 0, none⟩) 4 4) (Lb (lit [97, 98, 99, 100])) :=
    Sl_block_lit (heap_one w _ _) rfl rfl (by decide)
  have S0 := hid s0
  clear s0 s1
  refine (sum_any _ (lit [101, 102, 103, 104]) _ S1.out T1.out).mono ?_
  rintro e w1 ⟨rfl, hw⟩
  obtain rfl := hw
  go_wp2_with fail
  refine (patch_any _ (lit [97, 98, 99, 100]) 0 _ _ S0.out T1.out (by decide) (by decide)).mono ?_
  rintro e w2 ⟨v2, rfl, ho2, hb2⟩
  have hres : patchTo (patchWord (more 0#32 (ws (lit [101, 102, 103, 104]))) (lit [97, 98, 99, 100]) 0) (lit [97, 98, 99, 100]) 0 4 = lit [101, 102, 103, 104] := by decide +kernel
  rw [hres] at ho2
  obtain ⟨g, cap, hv2⟩ : ∃ g cap, v2 = .slice (some ⟨g, 0, none⟩) 4 cap := by
    rcases ho2.2 with ⟨_, h3⟩ | ⟨g, cap, cur, hv, _⟩
    · exact absurd h3 (by decide)
    · exact ⟨g, cap, hv⟩
  subst hv2
  have hgl := (ho2.lt g rfl).2
  have hconv : ∀ o1 o2 o3 : Obj, (convert 23 9 (.slice (some ⟨g, 0, none⟩) 4 cap)).run Tryd.prog (((w2.alloc o1).alloc o2).alloc o3) = .ok (.string ⟨#[101, 102, 103, 104]⟩) (((w2.alloc o1).alloc o2).alloc o3) := fun o1 o2 o3 => by
    have h := run_convert_bytes_arg (P := Tryd.prog) (w := ((w2.alloc o1).alloc o2).alloc o3) 23 5 Tryd.underlying23 Tryd.underlying5 g 0 4 cap [101, 102, 103, 104] rfl (fun i hi => by
      have hb : Below w2.heap.size w2 (((w2.alloc o1).alloc o2).alloc o3) := (((Below.refl w2.heap.size w2).alloc (Nat.le_refl _) _).alloc (by simp) _).alloc (by simp; omega) _
      rw [hb.cell (p := ⟨g, 0 + i, none⟩) hgl, Nat.zero_add, ho2.cellAt i (by simpa [lit] using hi)]
      match i, hi with
      | 0, _ => rfl
      | 1, _ => rfl
      | 2, _ => rfl
      | 3, _ => rfl) 9 Tryd.underlying9
    exact h
  have HO2 := hid ho2
  have t2 := Tab_below T1.out hb2 (by simp)
  have T2 := hid t2
  have HB2 := hid hb2
  clear ho2 hres hb2 t2
  go_wp2_with fail
  have hT2s := T2.out.size
  refine (sum_any _ (lit [49, 50, 51, 52, 53, 54, 55, 56, 57]) _ (Sl_block_lit (heap_alloc_new w2 _) rfl rfl (by decide)) (Tab_below T2.out ((Below.refl w2.heap.size w2).alloc (Nat.le_refl _) _) hT2s)).mono ?_
  rintro e w3 ⟨rfl, hw⟩
  obtain rfl := hw
  rw [show J (more 0#32 (ws (lit [49, 50, 51, 52, 53, 54, 55, 56, 57]))) = 3421780262 from by decide +kernel]
  go_wp2_with fail
  refine (sum_any _ (lit [97]) _ (Sl_block_lit (heap_two w2 _ _) rfl rfl (by decide)) (Tab_below T2.out (((Below.refl w2.heap.size w2).alloc (Nat.le_refl _) _).alloc (by simp) _) hT2s)).mono ?_
  rintro e w3 ⟨rfl, hw⟩
  obtain rfl := hw
  go_wp2_with fail
  refine (more_any (more 0#32 (ws (lit [97]))) _ rfl _ (lit [98, 99]) _ (Sl_block_lit (heap_three w2 _ _ _) rfl rfl (by decide)) (Tab_below T2.out ((((Below.refl w2.heap.size w2).alloc (Nat.le_refl _) _).alloc (by simp) _).alloc (by simp; omega) _) hT2s)).mono ?_
  rintro e w3 ⟨rfl, hw⟩
  obtain rfl := hw
  rw [show J (more (more 0#32 (ws (lit [97]))) (ws (lit [98, 99]))) = 891568578 from by decide +kernel]
  go_wp2_with fail
  refine (join_any 5#32 3#32 _ _ 0 (by decide) (by decide) (by decide) _).mono ?_
  rintro e w3 ⟨rfl, hw⟩
  obtain rfl := hw
  rw [show J (steps (8 * (0 : Int).toNat) 5#32 ^^^ 3#32) = 6 from by decide +kernel]
  go_wp2_with fail
  go_ret
  have hS : w.heap.size ≤ w2.heap.size := by have := HB2.out.size; simp at this; omega
  exact ⟨rfl, (((((((Below.refl w.heap.size w).alloc (Nat.le_refl _) _).alloc (by simp) _).trans (HB2.out.mono (by simp; omega))).alloc hS _).alloc (by simp; omega) _).alloc (by simp; omega) _)⟩
end Go.Proofs.YtffkegfhnlkonaaDoor
