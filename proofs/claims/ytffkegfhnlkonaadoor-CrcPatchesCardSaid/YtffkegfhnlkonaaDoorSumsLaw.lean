/- The law CrcSums, by its contracts. -/
import Derived.Test.YtffkegfhnlkonaaDoorKept
import Derived.Laws.CopyOwn
namespace Go.Proofs.YtffkegfhnlkonaaDoor
open Go.RowKit CrcPlain

/-- a row that is owned, whole: its cells -/
theorem own_cells {w : World} {base g n : Nat} {xs : List Value} (h : w.ownsRow base 5 1 (.slice (some ⟨g, 0, none⟩) n n) n xs) : w.heap[g]? = some (.cells xs.toArray 5 (0, 0)) := by
  obtain ⟨h1, h2⟩ := h
  rcases h2 with ⟨h0, _⟩ | ⟨g', cap', cur, hv, hbg, hg, hnc, hcm, hcs, htake⟩
  · cases h0
  · cases hv
    rw [hg]
    have : cur.toList = xs := by
      rw [← htake, List.take_of_length_le]
      rw [Array.length_toList, hcs]
      exact Nat.le_refl _
    rw [← this]

theorem Sl_row {w : World} {g p cap : Nat} {xs : List (BitVec 8)} (h : w.heap[g]? = some (.cells (Lb xs).toArray 5 (0, 0))) (hp : p ≤ cap) (hc : xs.length = cap) (hm : cap ≤ maxLen) :
    Sl w (.slice (some ⟨g, 0, none⟩) p cap) (Lb (xs.take p)) := by
  have e : Lb (xs.take p) = (Lb xs).take p := by simp [Lb]
  rw [e]
  refine Sl_of_cells hp hm (by rw [Lb_len, hc]) (fun i u hi => ?_)
  rw [addr_add, Nat.zero_add]
  simp only [World.cell?, h]
  simpa using hi

theorem Lb_splice (xs cs : List (BitVec 8)) (o : Nat) : splice (Lb xs) o (Lb cs) = Lb (splice xs o cs) := by simp [splice, Lb, List.map_take, List.map_drop]

/-- what lies in the lent bytes, as a slice -/
theorem lent_sl {w : World} {base g n : Nat} {l : List (BitVec 8)} (h : w.ownsRow base 5 1 (.slice (some ⟨g, 0, none⟩) (n + 12) (n + 12)) (n + 12) (Lb (l ++ marks 12))) (hn : l.length = n) :
    Sl w (.slice (some ⟨g, 0, none⟩) n (n + 12)) (Lb l) := by
  have h1 := Sl_first (p := n) (Sl_of_own h) (by omega)
  rwa [List.take_left' hn] at h1

set_option maxRecDepth 8000 in
set_option maxHeartbeats 1600000 in
theorem crcSums_any (s : BitVec 32) (a1 a2 : Option Addr) (n1 n2 c1 c2 : Nat) (l1 l2 : List (BitVec 8)) (w : World) (hT : Tab w) (h1 : Sl w (.slice a1 n1 c1) (Lb l1)) (h2 : Sl w (.slice a2 n2 c2) (Lb l2))
    (hl1 : l1.length ≤ 140737488351232) (hl2 : l2.length ≤ 140737488351232) :
    Calls Tryd.prog 3 #[.int .u32 (J s), .slice a1 n1 c1, .slice a2 n2 c2] w fun e w' => e = .returned (.bool true) ∧ Below w.heap.size w w' := by
  have hn1 : l1.length = n1 := by obtain ⟨_, _, h, _⟩ := h1; rw [Lb_len] at h; cases h; rfl
  have hn2 : l2.length = n2 := by obtain ⟨_, _, h, _⟩ := h2; rw [Lb_len] at h; cases h; rfl
  rw [hn1] at hl1
  have HT := hid hT
  have HTs := hid hT.size
  have H1 := hid h1
  have H2 := hid h2
  have HN1 := hid hn1
  have HN2 := hid hn2
  clear hT h1 h2 hn1 hn2
  go_enter Tryd.func3, Tryd.ntmps3
  go_wp2_with fail
  refine (lent_any _ l1 _ H1.out (by rw [HN1.out]; omega)).mono ?_
  rintro e w1 ⟨rfl, hb1, ho1⟩
  rw [HN1.out] at ho1 ⊢
  have HB1 := hid hb1
  have HO1 := hid ho1
  have HT1 := hid (Tab_below HT.out hb1 HTs.out)
  have HS1 := hid (lent_sl ho1 HN1.out)
  have HZ1 := hid (Sl_below H1.out hb1 (Nat.le_refl _))
  clear hb1 ho1
  go_wp2_with (first
    | (go_at_call 12; refine (sum_any _ l1 _ HS1.out HT1.out).mono ?_; rintro e w9 ⟨rfl, hw⟩; obtain rfl := hw)
    | (go_at_call 13; refine (refSum_any _ l1 _ HZ1.out).mono ?_; rintro e w9 ⟨rfl, hw⟩; obtain rfl := hw)
    | (go_at_call 14; refine (more_any s _ rfl _ l1 _ HS1.out HT1.out).mono ?_; rintro e w9 ⟨rfl, hw⟩; obtain rfl := hw)
    | (go_at_call 15; refine (refMore_any s _ rfl _ l1 _ HZ1.out).mono ?_; rintro e w9 ⟨rfl, hw⟩; obtain rfl := hw))
  have hk := kept_any w.heap.size (.slice a1 n1 c1) l1 w1 (by rw [HN1.out]; omega) (by rw [HN1.out]; exact Sl_of_own HO1.out) HZ1.out
  rw [HN1.out] at hk
  refine hk.mono ?_
  clear hk
  rintro e w2 ⟨rfl, hb2⟩
  have hB2 := HB1.out.trans (hb2.mono HB1.out.size)
  have ho2 := own_below HO1.out hb2 (Nat.le_refl _)
  have HB2 := hid hB2
  have HT2 := hid (Tab_below HT.out hB2 HTs.out)
  have hg2 := own_cells ho2
  have HG2 := hid hg2
  obtain ⟨m, hm⟩ : ∃ m, m = Nat.min n2 n1 := ⟨_, rfl⟩
  obtain ⟨cs, hcs⟩ : ∃ cs, cs = l2.take m := ⟨_, rfl⟩
  have hcl : cs.length = Nat.min n2 n1 := by rw [hcs, List.length_take, HN2.out, hm]; exact Nat.min_eq_left (Nat.min_le_left _ _)
  have hcn : cs.length ≤ n1 := by rw [hcl]; exact Nat.min_le_right _ _
  obtain ⟨X, hX⟩ : ∃ X, X = Lb cs := ⟨_, rfl⟩
  have hXl : X.length = Nat.min n2 n1 := by rw [hX, Lb_len, hcl]
  have HXl := hid hXl
  have HXn := hid (show X.length ≤ n1 by rw [hXl]; exact Nat.min_le_right _ _)
  have hX1 : ∀ v ∈ X, v.oneCell' = true := by rw [hX]; exact Lb_one cs
  have HX1 := hid hX1
  obtain ⟨Y, hY⟩ : ∃ Y, Y = Lb (l1 ++ marks 12) := ⟨_, rfl⟩
  have hYl : Y.length = n1 + 12 := by rw [hY, Lb_len, List.length_append, marks_len, HN1.out]
  have HYl := hid hYl
  rw [← hY] at hg2
  have HGY := hid hg2
  have hsrc : 0 < X.length → ∃ ad, a2 = some ad ∧ ∀ j v, X[j]? = some v → w2.cell? (ad.add j) = some v := by
    intro h0
    obtain ⟨a', c', e', _, _, hnone, hcell⟩ := Sl_parts H2.out
    cases e'
    cases a2 with
    | none =>
      have h9 := (hnone rfl).1
      rw [hXl, h9] at h0
      simp at h0
    | some ad =>
      refine ⟨ad, rfl, fun j v hj => ?_⟩
      have hj2 : (Lb l2)[j]? = some v := by
        rw [hX, hcs] at hj
        have e9 : Lb (l2.take m) = (Lb l2).take m := by simp [Lb]
        rw [e9, List.getElem?_take] at hj
        split at hj
        · exact hj
        · cases hj
      rw [HB2.out.cell (hcell ad rfl j v hj2).2]
      exact (hcell ad rfl j v hj2).1
  have HSRC := hid hsrc
  have hspl : splice Y 0 X = Lb (splice (l1 ++ marks 12) 0 cs) := by rw [hY, hX, Lb_splice]
  have HSPL := hid hspl
  have hspn : (splice (l1 ++ marks 12) 0 cs).length = n1 + 12 := by
    rw [length_splice _ _ _ (by rw [List.length_append, marks_len, HN1.out]; omega), List.length_append, marks_len, HN1.out]
  have HSPN := hid hspn
  have hsz5 : (Tryd.prog.info? 5).map (·.size) = some 1 := by kernel_rfl
  have HSZ := hid hsz5
  clear hsz5 hm hX hY hcs hcl hcn hXl hX1 hYl hg2 hb2 hB2 ho2 hsrc hspl hspn
  have hfit : 0 + X.length ≤ Y.length := by rw [HYl.out, Nat.zero_add]; exact Nat.le_trans HXn.out (Nat.le_add_right _ _)
  have HFIT := hid hfit
  clear hfit
  go_wp2_with (refine wpList_copy_splice rfl _ _ 23 23 rfl 5 Tryd.underlying23 HSZ.out (some ⟨w.heap.size, 0, none⟩) a2 n1 (n1 + 12) n2 c2 rfl rfl w.heap.size 0 Y 5 HGY.out X HXl.out (fun h => ⟨rfl, HSRC.out h⟩) HFIT.out HX1.out w.heap.size w HB2.out (Nat.le_refl _) ?_; intro w3 HG3 hB3)
  have hg3 := HG3.out
  rw [HSPL.out] at hg3
  have hs3 := Sl_row (p := n1) hg3 (Nat.le_add_right n1 12) HSPN.out (by unfold maxLen; omega)
  obtain ⟨l3, hl3⟩ : ∃ l3, (splice (l1 ++ marks 12) 0 cs).take n1 = l3 := ⟨_, rfl⟩
  rw [hl3] at hs3
  have HS3 := hid hs3
  have HT3 := hid (Tab_below HT.out hB3 HTs.out)
  have HB3 := hid hB3
  clear hg3 hs3 hl3 hB3
  go_wp2_with (first
    | (go_at_call 12; refine (sum_any _ l3 _ HS3.out HT3.out).mono ?_; rintro e w9 ⟨rfl, hw⟩; obtain rfl := hw)
    | (go_at_call 13; refine (refSum_any _ l3 _ HS3.out).mono ?_; rintro e w9 ⟨rfl, hw⟩; obtain rfl := hw)
    | (go_at_call 14; refine (more_any s _ rfl _ l3 _ HS3.out HT3.out).mono ?_; rintro e w9 ⟨rfl, hw⟩; obtain rfl := hw)
    | (go_at_call 15; refine (refMore_any s _ rfl _ l3 _ HS3.out).mono ?_; rintro e w9 ⟨rfl, hw⟩; obtain rfl := hw)
    | (go_at_call 17; refine (awake_any _ HT3.out).mono ?_; rintro e w4 ⟨rfl, hb4⟩; have HB4 := hid (HB3.out.trans (hb4.mono HB3.out.size)); clear hb4))
  go_ret
  exact ⟨rfl, HB4.out⟩
end Go.Proofs.YtffkegfhnlkonaaDoor
