/- Fares that are lent, and kept. -/
import Derived.Test.YtnaogcpcaabbhaaLent
import Derived.Deep.RegionWith
import Derived.Deep.RegionHeld3
namespace Go.Proofs.Ytnaogcpcaabbhaa
open Go.RowKit FloatPlain

theorem lentFare_any (P : Nat) (cv : Value) (l : List Nat) (w : World) (hv : Sl w cv (Fb l)) (hl : l.length * 8 ≤ 140737488351232) :
    Calls Try.prog 34 #[.agg #[.float .f64 P, cv]] w fun e w' => e = .returned (.agg #[.float .f64 P, .slice (some ⟨w.heap.size + 2, 0, none⟩) l.length (l.length + 12)]) ∧
      w'.ownsRow w.heap.size 33 1 (.slice (some ⟨w.heap.size + 2, 0, none⟩) (l.length + 12) (l.length + 12)) (l.length + 12) (Fb (l ++ marks 12)) ∧ Below w.heap.size w w' := by
  obtain ⟨a, c, rfl, hc, hcm, _⟩ := Sl_partsF hv
  have HV := hid hv
  have HL := hid hl
  clear hv hl
  have hstf := store_run
  go_enter Try.func34, Try.ntmps34
  go_wp2_with fail
  have hb0 := ((Below.refl w.heap.size w).alloc (Nat.le_refl _) (.cells #[.float .f64 P, .slice a l.length c] 48)).alloc (by simp) (.cells #[.float .f64 0, .slice none 0 0] 48)
  have hsz : ((w.alloc (.cells #[.float .f64 P, .slice a l.length c] 48)).alloc (.cells #[.float .f64 0, .slice none 0 0] 48)).heap.size = w.heap.size + 2 := by simp
  have hk0 : ((w.alloc (.cells #[.float .f64 P, .slice a l.length c] 48)).alloc (.cells #[.float .f64 0, .slice none 0 0] 48)).heap[w.heap.size]? = some (.cells #[.float .f64 P, .slice a l.length c] 48 (0, 0)) := by
    rw [heap_alloc_old (h := by simp)]; exact heap_alloc_new w _
  have hk1 : ((w.alloc (.cells #[.float .f64 P, .slice a l.length c] 48)).alloc (.cells #[.float .f64 0, .slice none 0 0] 48)).heap[w.heap.size + 1]? = some (.cells #[.float .f64 0, .slice none 0 0] 48 (0, 0)) := by
    have h9 := heap_alloc_new (w.alloc (.cells #[.float .f64 P, .slice a l.length c] 48)) (.cells #[.float .f64 0, .slice none 0 0] 48)
    rwa [World.size_alloc] at h9
  obtain ⟨w0, hw0⟩ : ∃ w0, (w.alloc (.cells #[.float .f64 P, .slice a l.length c] 48)).alloc (.cells #[.float .f64 0, .slice none 0 0] 48) = w0 := ⟨_, rfl⟩
  rw [hw0] at hb0 hsz hk0 hk1 ⊢
  clear hw0
  refine (lentReals_any _ l _ (Sl_below HV.out hb0 (Nat.le_refl _)) HL.out).mono ?_
  rintro e w3 ⟨rfl, hb, ho⟩
  rw [hsz] at ho hb ⊢
  have q0 := (hb.block w.heap.size (by omega)).trans hk0
  have q1 := (hb.block (w.heap.size + 1) (by omega)).trans hk1
  have f01 : w3.frozen? ⟨w.heap.size, 1, none⟩ = false := frozen_of_row w3 _ 1 _ _ q0
  have f10 : w3.frozen? ⟨w.heap.size + 1, 0, none⟩ = false := frozen_of_row w3 _ 0 _ _ q1
  have f11 : w3.frozen? ⟨w.heap.size + 1, 1, none⟩ = false := frozen_of_row w3 _ 1 _ _ q1
  have c00 : w3.cell? ⟨w.heap.size, 0, none⟩ = some (.float .f64 P) := by rw [hb.cell (p := ⟨w.heap.size, 0, none⟩) (by show w.heap.size < _; omega)]; exact cell_of_row w0 _ 0 _ _ _ hk0
  have c01 : w3.cell? ⟨w.heap.size, 1, none⟩ = some (.slice a l.length c) := by rw [hb.cell (p := ⟨w.heap.size, 1, none⟩) (by show w.heap.size < _; omega)]; exact cell_of_row w0 _ 1 _ _ _ hk0
  have c10 : w3.cell? ⟨w.heap.size + 1, 0, none⟩ = some (.float .f64 0) := by rw [hb.cell (p := ⟨w.heap.size + 1, 0, none⟩) (by show w.heap.size + 1 < _; omega)]; exact cell_of_row w0 _ 0 _ _ _ hk1
  have c11 : w3.cell? ⟨w.heap.size + 1, 1, none⟩ = some (.slice none 0 0) := by rw [hb.cell (p := ⟨w.heap.size + 1, 1, none⟩) (by show w.heap.size + 1 < _; omega)]; exact cell_of_row w0 _ 1 _ _ _ hk1
  have e1 : (w3.setCell ⟨w.heap.size, 1, none⟩ (.slice (some ⟨w.heap.size + 2, 0, none⟩) l.length (l.length + 12))).heap[w.heap.size + 1]? = some (.cells #[.float .f64 0, .slice none 0 0] 48 (0, 0)) := by
    rw [heap_setCell_other _ _ _ _ (by show w.heap.size + 1 ≠ w.heap.size; omega)]; exact q1
  have e2 := heap_setCell_same _ _ 0 _ _ (.float .f64 P) e1
  have e3 := heap_setCell_same _ _ 1 _ _ (.slice (some ⟨w.heap.size + 2, 0, none⟩) l.length (l.length + 12)) e2
  have HR := hid e3
  have hn0 : (Value.slice (some ⟨w.heap.size + 2, 0, none⟩) (l.length + 12) (l.length + 12)).ownBlock ≠ some w.heap.size := by intro h9; injection h9 with h9; have h9 : w.heap.size + 2 = w.heap.size := h9; omega
  have hn1 : (Value.slice (some ⟨w.heap.size + 2, 0, none⟩) (l.length + 12) (l.length + 12)).ownBlock ≠ some (w.heap.size + 1) := by intro h9; injection h9 with h9; have h9 : w.heap.size + 2 = w.heap.size + 1 := h9; omega
  have HO := hid (own_mono (base' := w.heap.size) (own_other (own_other (own_other ho (p := ⟨w.heap.size, 1, none⟩) hn0 (.slice (some ⟨w.heap.size + 2, 0, none⟩) l.length (l.length + 12))) (p := ⟨w.heap.size + 1, 0, none⟩) hn1 (.float .f64 P)) (p := ⟨w.heap.size + 1, 1, none⟩) hn1 (.slice (some ⟨w.heap.size + 2, 0, none⟩) l.length (l.length + 12))) (Nat.le_add_right _ 2))
  have HB := hid ((((hb0.trans (hb.mono (Nat.le_add_right _ 2))).setCell (p := ⟨w.heap.size, 1, none⟩) (Nat.le_refl _) (.slice (some ⟨w.heap.size + 2, 0, none⟩) l.length (l.length + 12))).setCell (p := ⟨w.heap.size + 1, 0, none⟩) (Nat.le_succ _) (.float .f64 P)).setCell (p := ⟨w.heap.size + 1, 1, none⟩) (Nat.le_succ _) (.slice (some ⟨w.heap.size + 2, 0, none⟩) l.length (l.length + 12)))
  clear e1 e2 e3 hn0 hn1 ho hb hk0 hk1 q0 q1 hb0 hsz
  go_wp2_with fail
  (try simp only [Exit.inBlock, Exit.then])
  refine bodyPost_ret (results_cell_row rfl _ _ _ _ _ _ _ rfl HR.out Try.underlying48 rfl (by kernel_rfl)) rfl ?_
  exact ⟨rfl, HO.out, HB.out⟩

theorem markFare_any (i : Nat) (hi : i ≤ 1000) (w : World) : Calls Try.prog 35 #[.int .i64 1, .int .i64 i] w fun e w' => e = .returned (.agg #[.float .f64 (mb 1 i), .slice none 0 0]) ∧ Below w.heap.size w w' := by
  obtain ⟨f1, f2, _⟩ := mark_facts 1 i (by omega) (by omega)
  have hstf := store_run
  have HI := hid hi
  clear hi
  go_enter Try.func35, Try.ntmps35
  go_wp2_with fail
  refine (mark_any 1 i (by omega) (by have := HI.out; omega) _).mono ?_
  rintro e w3 ⟨rfl, hw⟩
  obtain rfl := hw
  obtain ⟨M, hM⟩ : ∃ M, mb 1 i = M := ⟨_, rfl⟩
  rw [hM] at f1 f2
  have HM := hid hM
  clear hM
  generalize ((mk 1 i : Nat) : Int) = MK at f1 f2 ⊢
  go_wp2_with fail
  (try simp only [Exit.inBlock, Exit.then])
  refine bodyPost_ret (results_cell_row rfl _ _ w.heap.size 48 #[.float .f64 M, .slice none 0 0] (0, 0) _ rfl (by first | exact heap_alloc_new w _ | simp) Try.underlying48 rfl (by kernel_rfl)) rfl ?_
  rw [HM.out]
  exact ⟨rfl, (Below.refl _ _).alloc (Nat.le_refl _) _⟩

theorem own_grown {w w' : World} {base n size : Nat} {e : TypeId} {v : Value} {xs : List Value} {row : Option Nat} (h : w.ownsRow base e size v n xs) (hg : w.grownBy w' row) (hne : ∀ b, v.ownBlock = some b → row ≠ some b) : w'.ownsRow base e size v n xs := by
  refine ⟨h.1, ?_⟩
  rcases h.2 with h2 | ⟨g, cap, cur, rfl, hbg, hgc, r⟩
  · exact Or.inl h2
  · refine Or.inr ⟨g, cap, cur, rfl, hbg, ?_, r⟩
    rw [hg.block g (Array.getElem?_eq_some_iff.1 hgc).1 (fun e => hne g rfl e.symm)]
    exact hgc

/-- lent classes: each one's chances in a row of their own, with marks behind -/
structure Le (w : World) (G : Nat) (ps : List (Nat × Value)) (fs : List (Nat × List Nat)) : Prop where
  el : ∀ j (h : j < ps.length), ∃ g, ps[j] = (prA fs j, .slice (some ⟨g, 0, none⟩) (csA fs j).length ((csA fs j).length + 12)) ∧ g ≠ G ∧
    w.ownsRow G 33 1 (.slice (some ⟨g, 0, none⟩) ((csA fs j).length + 12) ((csA fs j).length + 12)) ((csA fs j).length + 12) (Fb (csA fs j ++ marks 12))

theorem Le_below {w w' : World} {B G : Nat} {ps : List (Nat × Value)} {fs : List (Nat × List Nat)} (h : Le w G ps fs) (hb : Below B w w') (hB : w.heap.size ≤ B) : Le w' G ps fs :=
  ⟨fun j hj => by obtain ⟨g, h1, h2, h3⟩ := h.el j hj; exact ⟨g, h1, h2, own_below h3 hb hB⟩⟩
theorem Le_grown {w w' : World} {G : Nat} {ps : List (Nat × Value)} {fs : List (Nat × List Nat)} (h : Le w G ps fs) (hg : w.grownBy w' (some G)) : Le w' G ps fs :=
  ⟨fun j hj => by
    obtain ⟨g, h1, h2, h3⟩ := h.el j hj
    exact ⟨g, h1, h2, own_grown h3 hg (fun b hb => by
      intro e; injection e with e
      have : some g = some b := hb
      injection this with this
      omega)⟩⟩
theorem Le_snoc {w : World} {G k : Nat} {ps : List (Nat × Value)} {fs : List (Nat × List Nat)} (h : Le w G ps fs) (hp : ps.length = k) {g : Nat} (hne : g ≠ G)
    (ho : w.ownsRow G 33 1 (.slice (some ⟨g, 0, none⟩) ((csA fs k).length + 12) ((csA fs k).length + 12)) ((csA fs k).length + 12) (Fb (csA fs k ++ marks 12))) :
    Le w G (ps ++ [(prA fs k, .slice (some ⟨g, 0, none⟩) (csA fs k).length ((csA fs k).length + 12))]) fs := by
  refine ⟨fun j hj => ?_⟩
  by_cases e : j < ps.length
  · rw [List.getElem_append_left e]
    exact h.el j e
  · have hje : j = ps.length := by rw [List.length_append] at hj; simp at hj; omega
    subst hje
    subst hp
    exact ⟨g, by simp, hne, ho⟩

/-- the marks behind lent classes -/
def markPs (k : Nat) : List (Nat × Value) := (List.range k).map fun i => (mb 1 i, Value.slice none 0 0)
theorem markPs_len (k : Nat) : (markPs k).length = k := by simp [markPs]
theorem markPs_succ (k : Nat) : markPs (k + 1) = markPs k ++ [(mb 1 k, Value.slice none 0 0)] := by simp [markPs, List.range_succ]

/-- what lent fares are -/
structure Lent (w : World) (G : Nat) (ps : List (Nat × Value)) (fs : List (Nat × List Nat)) : Prop where
  len : ps.length = fs.length
  le : Le w G ps fs
  row : w.ownsRow G 48 2 (.slice (some ⟨G, 0, none⟩) (fs.length + 12) (fs.length + 12)) (fs.length + 12) (Cl (ps ++ markPs 12))
theorem Lent_below {w w' : World} {B G : Nat} {ps : List (Nat × Value)} {fs : List (Nat × List Nat)} (h : Lent w G ps fs) (hb : Below B w w') (hB : w.heap.size ≤ B) : Lent w' G ps fs :=
  ⟨h.len, Le_below h.le hb hB, own_below h.row hb hB⟩

theorem Lent_cell {w : World} {G : Nat} {ps : List (Nat × Value)} {fs : List (Nat × List Nat)} (h : Lent w G ps fs) {j : Nat} (hj : j < fs.length) :
    ∃ g, w.cell? ⟨G, j * 2, none⟩ = some (.float .f64 (prA fs j)) ∧ w.cell? ⟨G, j * 2 + 1, none⟩ = some (.slice (some ⟨g, 0, none⟩) (csA fs j).length ((csA fs j).length + 12)) ∧
      w.ownsRow G 33 1 (.slice (some ⟨g, 0, none⟩) ((csA fs j).length + 12) ((csA fs j).length + 12)) ((csA fs j).length + 12) (Fb (csA fs j ++ marks 12)) := by
  have hjp : j < ps.length := by rw [h.len]; exact hj
  obtain ⟨g, h1, _, h3⟩ := h.le.el j hjp
  have hjl : j < (ps ++ markPs 12).length := by rw [List.length_append]; omega
  obtain ⟨c1, c2⟩ := Cl_get hjl
  rw [List.getElem_append_left hjp, h1] at c1 c2
  have k1 := h.row.cells (g := G) rfl _ _ c1
  have k2 := h.row.cells (g := G) rfl _ _ c2
  rw [addr_add, Nat.zero_add] at k1 k2
  exact ⟨g, k1, k2, h3⟩
theorem Lent_mark {w : World} {G : Nat} {ps : List (Nat × Value)} {fs : List (Nat × List Nat)} (h : Lent w G ps fs) {j : Nat} (hj : j < 12) :
    w.cell? ⟨G, (fs.length + j) * 2, none⟩ = some (.float .f64 (mb 1 j)) ∧ w.cell? ⟨G, (fs.length + j) * 2 + 1, none⟩ = some (.slice none 0 0) := by
  have hjl : fs.length + j < (ps ++ markPs 12).length := by rw [List.length_append, markPs_len, h.len]; omega
  have e : (ps ++ markPs 12)[fs.length + j] = (mb 1 j, Value.slice none 0 0) := by
    rw [List.getElem_append_right (by rw [h.len]; omega)]
    simp [markPs, h.len]
  obtain ⟨c1, c2⟩ := Cl_get hjl
  rw [e] at c1 c2
  have k1 := h.row.cells (g := G) rfl _ _ c1
  have k2 := h.row.cells (g := G) rfl _ _ c2
  rw [addr_add, Nat.zero_add] at k1 k2
  exact ⟨k1, k2⟩
theorem lent_sl {w : World} {G g : Nat} {l : List Nat} (h : w.ownsRow G 33 1 (.slice (some ⟨g, 0, none⟩) (l.length + 12) (l.length + 12)) (l.length + 12) (Fb (l ++ marks 12))) : Sl w (.slice (some ⟨g, 0, none⟩) l.length (l.length + 12)) (Fb l) := by
  obtain ⟨a, cap, e, hc, hm, h9⟩ := Sl_of_own h
  injection e with e1 e2 e3
  subst e1 e3
  refine ⟨_, _, by rw [Fb_len], by rw [Fb_len]; omega, hm, ?_⟩
  rcases h9 with ⟨h0, h1⟩ | ⟨b, off, ha, hb, hcell⟩
  · omega
  · refine Or.inr ⟨b, off, ha, hb, fun j u hj => hcell j u ?_⟩
    have hjl : j < (Fb l).length := by
      rcases Nat.lt_or_ge j (Fb l).length with h | h
      · exact h
      · rw [List.getElem?_eq_none h] at hj; cases hj
    rw [Fb_app, List.getElem?_append_left hjl]
    exact hj
theorem Lent_fl {w : World} {G : Nat} {ps : List (Nat × Value)} {fs : List (Nat × List Nat)} (h : Lent w G ps fs) : Fl w (.slice (some ⟨G, 0, none⟩) fs.length (fs.length + 12)) fs := by
  have hG : G < w.heap.size := by
    rcases h.row.2 with ⟨h9, _⟩ | ⟨g9, cap9, cur9, h9, _, hg9, _⟩
    · cases h9
    · injection h9 with h9
      injection h9 with h9
      injection h9 with h9
      subst h9
      exact (Array.getElem?_eq_some_iff.1 hg9).1
  have hm : fs.length + 12 ≤ maxLen := by
    rcases h.row.2 with ⟨h9, _⟩ | ⟨g9, cap9, cur9, h9, _, _, hnc, hcm, _⟩
    · cases h9
    · omega
  refine ⟨_, _, rfl, by omega, hm, (fun h => by cases h), Or.inr ⟨G, 0, rfl, hG, fun j f hj => ?_⟩⟩
  have hjl : j < fs.length := by
    rcases Nat.lt_or_ge j fs.length with h | h
    · exact h
    · rw [List.getElem?_eq_none h] at hj; cases hj
  obtain ⟨g, c1, c2, ho⟩ := Lent_cell h hjl
  have hf : f = fs[j] := by
    rw [List.getElem?_eq_getElem hjl] at hj
    injection hj with hj; exact hj.symm
  subst hf
  rw [Nat.zero_add]
  exact ⟨_, by rw [← prA_get hjl]; exact c1, c2, by rw [← csA_get hjl]; exact lent_sl ho⟩

set_option maxRecDepth 8000 in
set_option maxHeartbeats 2000000 in
theorem lentFares_any (v : Value) (fs : List (Nat × List Nat)) (w : World) (hv : Fl w v fs) (hl : fs.length * 32 ≤ 140737488351232) (hc8 : ∀ k, (csA fs k).length * 8 ≤ 140737488351232) :
    Calls Try.prog 10 #[v] w fun e w' => ∃ ps, e = .returned (.slice (some ⟨w.heap.size, 0, none⟩) fs.length (fs.length + 12)) ∧ Lent w' w.heap.size ps fs ∧ Below w.heap.size w w' := by
  obtain ⟨a, c, rfl, hc, hcm, hnone⟩ := Fl_parts hv
  obtain ⟨n, hn⟩ : ∃ n, fs.length = n := ⟨_, rfl⟩
  obtain ⟨i0, hi, hz0, hz1, hz2⟩ := info_parts info48
  have HI := hid hi
  have HZ := hid hz2
  have HV := hid hv
  have HN := hid hn
  have HC8 := hid hc8
  rw [hn] at hc HV hl ⊢
  unfold maxLen at hcm
  clear hv hn hi hz2 hc8
  have hstf := store_run
  go_enter Try.func10, Try.ntmps10
  go_wp2_with (at_make; refine wpList_make_own _ rfl _ _ 22 rfl w.heap.size 48 i0 (.agg #[.float .f64 0, .slice none 0 0]) 2 Try.underlying22 HI.out hz0 hz1 .i64 .i64 _ (n + 12) rfl rfl (by push_cast; rfl) (by rw [HZ.out]; omega) (by unfold maxLen; omega) (Nat.le_refl _) ?_; intro w1 hown hgrow)
  have hb1 := (Below.refl w.heap.size w).grown hgrow (Nat.le_refl _) (fun k hk => absurd (show (none : Option Nat) = some k from hk) (by simp))
  have HB1 := hid hb1
  have HO1 := hid hown
  clear hb1 hown hgrow
  go_loopw [3, 4] (fun out i wr => ∃ (k : Nat) (ps : List (Nat × Value)), k ≤ n ∧ i = .int .i64 k ∧ out = .slice (some ⟨w.heap.size, 0, none⟩) k (n + 12) ∧ ps.length = k ∧ wr.ownsRow w.heap.size 48 2 (.slice (some ⟨w.heap.size, 0, none⟩) k (n + 12)) k (Cl ps) ∧ Le wr w.heap.size ps fs ∧ Below w.heap.size w wr) (fun _ i _ => n - (intOf i).toNat)
  case atStart => exact ⟨0, [], by omega, rfl, rfl, rfl, HO1.out, ⟨fun j h => by cases h⟩, HB1.out⟩
  case round =>
    obtain ⟨k, ps, hk, rfl, rfl, hps, hoR, hF, hbR⟩ := hrel
    have HOR := hid hoR
    have HLE := hid hF
    have HBR := hid hbR
    have HPS := hid hps
    clear hoR hF hbR hps
    by_cases hlt : k < n
    · have hlt' : (k : Int) < (n : Int) := by omega
      obtain ⟨b, off, cv, rfl, hbl, q1, q2, q3⟩ := Fl_cell (k := k) (Fl_below HV.out HBR.out (Nat.le_refl _)) (by rw [HN.out]; exact hlt)
      have HC := hid q3
      obtain ⟨ca, cc, rfl, hcc, hccm, hcn⟩ := Sl_partsF HC.out
      clear q3
      obtain ⟨P, hP⟩ : ∃ P, prA fs k = P := ⟨_, rfl⟩
      rw [hP] at q1
      have HP := hid hP
      clear hP
      go_wp2_with fail
      refine (lentFare_any P _ (csA fs k) _ HC.out (HC8.out k)).mono ?_
      rintro e w3 ⟨rfl, ho3, hb3⟩
      have HO3 := hid (own_mono (base' := w.heap.size) ho3 HBR.out.size)
      have HOR3 := hid (own_below HOR.out hb3 (Nat.le_refl _))
      have HLE3 := hid (Le_below HLE.out hb3 (Nat.le_refl _))
      have HB3 := hid (HBR.out.trans (hb3.mono HBR.out.size))
      have HGW := hid (show w.heap.size ≤ wr.heap.size from HBR.out.size)
      clear ho3 hb3
      go_wp2_with (at_builtin; refine wpList_append_fits _ rfl _ _ 22 rfl w.heap.size 48 i0 2 Try.underlying22 HI.out hz1 w.heap.size k (n + 12) (Cl ps) rfl ((HOR3.out.alloc _).alloc _) ⟨w3.heap.size + 1, 0, none⟩ 1 1 [.float .f64 P, .slice (some ⟨wr.heap.size + 2, 0, none⟩) (csA fs k).length ((csA fs k).length + 12)] rfl rfl (cell_two_new _ _ _ _ _ (by simp)) (Cl_one _ _ _ _) (by omega) ?_; intro w4 hown hgrow)
      have hA := fun (X : World) (h : X.ownsRow w.heap.size 33 1 (.slice (some ⟨wr.heap.size + 2, 0, none⟩) ((csA fs k).length + 12) ((csA fs k).length + 12)) ((csA fs k).length + 12) (Fb (csA fs k ++ marks 12))) (o : Obj) => own_below h ((Below.refl X.heap.size X).alloc (Nat.le_refl _) o) (Nat.le_refl _)
      have hL := fun (X : World) (h : Le X w.heap.size ps fs) (o : Obj) => Le_below h ((Below.refl X.heap.size X).alloc (Nat.le_refl _) o) (Nat.le_refl _)
      have hne : wr.heap.size + 2 ≠ w.heap.size := by have := HGW.out; omega
      have hle4 := Le_grown (hL _ (hL _ HLE3.out (.cells #[.float .f64 P, .slice (some ⟨wr.heap.size + 2, 0, none⟩) (csA fs k).length ((csA fs k).length + 12)] 48)) (.cells #[.float .f64 P, .slice (some ⟨wr.heap.size + 2, 0, none⟩) (csA fs k).length ((csA fs k).length + 12)] 48)) hgrow
      have ho4 := own_grown (hA _ (hA _ HO3.out (.cells #[.float .f64 P, .slice (some ⟨wr.heap.size + 2, 0, none⟩) (csA fs k).length ((csA fs k).length + 12)] 48)) (.cells #[.float .f64 P, .slice (some ⟨wr.heap.size + 2, 0, none⟩) (csA fs k).length ((csA fs k).length + 12)] 48)) hgrow (fun b hb => by
        intro e; injection e with e
        have : some (wr.heap.size + 2) = some b := hb
        injection this with this
        omega)
      have hle5 := Le_snoc hle4 HPS.out hne ho4
      rw [HP.out] at hle5
      have hb4 := ((HB3.out.alloc HB3.out.size (.cells #[.float .f64 P, .slice (some ⟨wr.heap.size + 2, 0, none⟩) (csA fs k).length ((csA fs k).length + 12)] 48)).alloc (by have := HB3.out.size; simp; omega) (.cells #[.float .f64 P, .slice (some ⟨wr.heap.size + 2, 0, none⟩) (csA fs k).length ((csA fs k).length + 12)] 48)).grown hgrow (by have := HB3.out.size; simp; omega) (fun q hq => by cases hq; exact Nat.le_refl _)
      have HLE5 := hid hle5
      have HB4 := hid hb4
      have HO4 := hid hown
      clear hA hL hne hle4 ho4 hle5 hb4 hown hgrow
      go_roundw
      case rel => exact ⟨k + 1, _, by omega, by go_num, rfl, by rw [List.length_append, HPS.out]; rfl, by rw [Cl_app]; exact HO4.out, HLE5.out, HB4.out⟩
      case measure => simp [intOf]; omega
    · obtain rfl : k = n := by omega
      go_wp2_with fail
      go_loopw [3, 6] (fun out i wi => ∃ j : Nat, j ≤ 12 ∧ i = .int .i64 j ∧ out = .slice (some ⟨w.heap.size, 0, none⟩) (k + j) (k + 12) ∧ wi.ownsRow w.heap.size 48 2 (.slice (some ⟨w.heap.size, 0, none⟩) (k + j) (k + 12)) (k + j) (Cl (ps ++ markPs j)) ∧ Le wi w.heap.size ps fs ∧ Below w.heap.size w wi) (fun _ i _ => 12 - (intOf i).toNat)
      case atStart => exact ⟨0, by omega, rfl, rfl, by rw [show markPs 0 = [] from rfl, List.append_nil]; exact HOR.out, HLE.out, HBR.out⟩
      case round =>
        obtain ⟨j, hj, rfl, rfl, hoI, hlI, hbI⟩ := hrel
        have HOI := hid hoI
        have HLI := hid hlI
        have HBI := hid hbI
        clear hoI hlI hbI
        by_cases hlj : j < 12
        · have hlj' : (j : Int) < 12 := by omega
          go_wp2_with fail
          refine (markFare_any j (by omega) _).mono ?_
          rintro e w3 ⟨rfl, hb3⟩
          have HO3 := hid (own_below HOI.out hb3 (Nat.le_refl _))
          have HL3 := hid (Le_below HLI.out hb3 (Nat.le_refl _))
          have HB3 := hid (HBI.out.trans (hb3.mono HBI.out.size))
          have hMS := markPs_succ j
          clear hb3
          obtain ⟨M, hM⟩ : ∃ M, mb 1 j = M := ⟨_, rfl⟩
          rw [hM] at hMS ⊢
          have HMS := hid hMS
          clear hM hMS
          go_wp2_with (at_builtin; refine wpList_append_fits _ rfl _ _ 22 rfl w.heap.size 48 i0 2 Try.underlying22 HI.out hz1 w.heap.size (k + j) (k + 12) (Cl (ps ++ markPs j)) rfl (HO3.out.alloc _) ⟨w3.heap.size, 0, none⟩ 1 1 [.float .f64 M, .slice none 0 0] rfl rfl (cell_two_new _ _ _ _ _ rfl) (Cl_one _ _ _ _) (by omega) ?_; intro w4 hown hgrow)
          have hle4 := Le_grown (Le_below HL3.out ((Below.refl w3.heap.size w3).alloc (Nat.le_refl _) (.cells #[.float .f64 M, .slice none 0 0] 48)) (Nat.le_refl _)) hgrow
          have hb4 := (HB3.out.alloc HB3.out.size (.cells #[.float .f64 M, .slice none 0 0] 48)).grown hgrow (by have := HB3.out.size; simp; omega) (fun q hq => by cases hq; exact Nat.le_refl _)
          have HL4 := hid hle4
          have HB4 := hid hb4
          have HO4 := hid hown
          clear hle4 hb4 hown hgrow
          go_roundw
          case rel => exact ⟨j + 1, by omega, by go_num, rfl, by rw [HMS.out, ← List.append_assoc, Cl_app]; exact HO4.out, HL4.out, HB4.out⟩
          case measure => simp [intOf]; omega
        · obtain rfl : j = 12 := by omega
          go_wp2_with fail
          go_ret
          exact ⟨ps, rfl, ⟨by rw [HPS.out, HN.out], HLI.out, by rw [HN.out]; exact HOI.out⟩, HBI.out⟩
end Go.Proofs.Ytnaogcpcaabbhaa
