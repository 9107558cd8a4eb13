/- Copies of fares. -/
import Derived.Test.YtnaogcpcaabbhaaLimits
namespace Go.Proofs.Ytnaogcpcaabbhaa
open Go.RowKit FloatPlain

theorem copyReals_any (v : Value) (l : List Nat) (w : World) (hv : Sl w v (Fb l)) (hl : l.length * 8 ≤ 140737488355328) :
    Calls Try.prog 30 #[v] w fun e w' => ∃ v', e = .returned v' ∧ w'.ownsRow w.heap.size 33 1 v' l.length (Fb l) ∧ Below w.heap.size w w' := by
  obtain ⟨a, c, rfl, hc, hcm, h1⟩ := hv
  rw [Fb_len] at hc ⊢
  unfold maxLen at hcm
  obtain ⟨i0, hi, hz0, hz1, hz2⟩ := info_parts info33
  have HL := hid hl
  have HI := hid hi
  have HZ := hid hz2
  clear hl hi hz2
  rcases h1 with ⟨h0, rfl⟩ | ⟨b, off, rfl, hb, hcell⟩
  · have hl0 : l = [] := by simpa [Fb] using h0
    subst hl0
    cases a with
    | none =>
      go_enter Try.func30, Try.ntmps30
      go_wp2
      go_ret
      exact ⟨_, rfl, World.ownsRow_nil _ _ _ _, Below.refl _ _⟩
    | some x =>
      go_enter Try.func30, Try.ntmps30
      go_wp2_with (at_builtin; refine wpList_append_own _ rfl _ _ 27 rfl w.heap.size 33 i0 (.float .f64 0) 1 8 Try.underlying27 HI.out hz0 hz1 HZ.out rfl (by decide) _ 0 [] rfl (World.ownsRow_nil _ _ _ _) x 0 0 [] rfl rfl (fun j u hj => by simp at hj) (by simp) (by unfold maxLen; omega) (by omega) (Nat.le_refl _) ?_; intro v' w1 hown hgrow _)
      go_ret
      refine ⟨_, rfl, by simpa [Fb] using hown, (Below.refl _ _).grown hgrow (Nat.le_refl _) (fun k hk => ?_)⟩
      exact absurd (show (none : Option Nat) = some k from hk) (by simp)
  · have HC := hid hcell
    clear hcell
    go_enter Try.func30, Try.ntmps30
    go_wp2_with (at_builtin; refine wpList_append_own _ rfl _ _ 27 rfl w.heap.size 33 i0 (.float .f64 0) 1 8 Try.underlying27 HI.out hz0 hz1 HZ.out rfl (by decide) _ 0 [] rfl (World.ownsRow_nil _ _ _ _) ⟨b, off, none⟩ l.length c (Fb l) rfl (by rw [Fb_len]; omega) (fun j u hj => by rw [addr_add]; exact HC.out j u hj) (Fb_one l) (by have := HL.out; unfold maxLen; omega) (by have := HL.out; omega) (Nat.le_refl _) ?_; intro v' w1 hown hgrow _)
    go_ret
    refine ⟨_, rfl, by simpa using hown, (Below.refl _ _).grown hgrow (Nat.le_refl _) (fun k hk => ?_)⟩
    exact absurd (show (none : Option Nat) = some k from hk) (by simp)

theorem copyFare_any (P : Nat) (cv : Value) (l : List Nat) (w : World) (hv : Sl w cv (Fb l)) (hl : l.length * 8 ≤ 140737488355328) :
    Calls Try.prog 46 #[.agg #[.float .f64 P, cv]] w fun e w' => ∃ cv', e = .returned (.agg #[.float .f64 P, cv']) ∧ w'.ownsRow w.heap.size 33 1 cv' l.length (Fb l) ∧ Below w.heap.size w w' := by
  obtain ⟨a, c, rfl, hc, hcm, _⟩ := Sl_partsF hv
  have HV := hid hv
  have HL := hid hl
  clear hv hl
  have hstf := store_run
  go_enter Try.func46, Try.ntmps46
  go_wp2_with fail
  have hb0 := ((Below.refl w.heap.size w).alloc (Nat.le_refl _) (.cells #[.float .f64 P, .slice a l.length c] 48)).alloc (by simp) (.cells #[.float .f64 0, .slice none 0 0] 48)
  have hsz : ((w.alloc (.cells #[.float .f64 P, .slice a l.length c] 48)).alloc (.cells #[.float .f64 0, .slice none 0 0] 48)).heap.size = w.heap.size + 2 := by simp
  have hk0 : ((w.alloc (.cells #[.float .f64 P, .slice a l.length c] 48)).alloc (.cells #[.float .f64 0, .slice none 0 0] 48)).heap[w.heap.size]? = some (.cells #[.float .f64 P, .slice a l.length c] 48 (0, 0)) := by
    rw [heap_alloc_old (h := by simp)]; exact heap_alloc_new w _
  have hk1 : ((w.alloc (.cells #[.float .f64 P, .slice a l.length c] 48)).alloc (.cells #[.float .f64 0, .slice none 0 0] 48)).heap[w.heap.size + 1]? = some (.cells #[.float .f64 0, .slice none 0 0] 48 (0, 0)) := by
    have h9 := heap_alloc_new (w.alloc (.cells #[.float .f64 P, .slice a l.length c] 48)) (.cells #[.float .f64 0, .slice none 0 0] 48)
    rwa [World.size_alloc] at h9
  obtain ⟨w0, hw0⟩ : ∃ w0, (w.alloc (.cells #[.float .f64 P, .slice a l.length c] 48)).alloc (.cells #[.float .f64 0, .slice none 0 0] 48) = w0 := ⟨_, rfl⟩
  rw [hw0] at hb0 hsz hk0 hk1 ⊢
  clear hw0
  refine (copyReals_any _ l _ (Sl_below HV.out hb0 (Nat.le_refl _)) HL.out).mono ?_
  rintro e w3 ⟨v', rfl, ho, hb⟩
  rw [hsz] at ho hb
  obtain ⟨a', c', rfl, hc', hcm'⟩ := own_form ho
  have q0 := (hb.block w.heap.size (by omega)).trans hk0
  have q1 := (hb.block (w.heap.size + 1) (by omega)).trans hk1
  have f01 : w3.frozen? ⟨w.heap.size, 1, none⟩ = false := frozen_of_row w3 _ 1 _ _ q0
  have f10 : w3.frozen? ⟨w.heap.size + 1, 0, none⟩ = false := frozen_of_row w3 _ 0 _ _ q1
  have f11 : w3.frozen? ⟨w.heap.size + 1, 1, none⟩ = false := frozen_of_row w3 _ 1 _ _ q1
  have c00 : w3.cell? ⟨w.heap.size, 0, none⟩ = some (.float .f64 P) := by rw [hb.cell (p := ⟨w.heap.size, 0, none⟩) (by show w.heap.size < _; omega)]; exact cell_of_row w0 _ 0 _ _ _ hk0
  have c01 : w3.cell? ⟨w.heap.size, 1, none⟩ = some (.slice a l.length c) := by rw [hb.cell (p := ⟨w.heap.size, 1, none⟩) (by show w.heap.size < _; omega)]; exact cell_of_row w0 _ 1 _ _ _ hk0
  have c10 : w3.cell? ⟨w.heap.size + 1, 0, none⟩ = some (.float .f64 0) := by rw [hb.cell (p := ⟨w.heap.size + 1, 0, none⟩) (by show w.heap.size + 1 < _; omega)]; exact cell_of_row w0 _ 0 _ _ _ hk1
  have c11 : w3.cell? ⟨w.heap.size + 1, 1, none⟩ = some (.slice none 0 0) := by rw [hb.cell (p := ⟨w.heap.size + 1, 1, none⟩) (by show w.heap.size + 1 < _; omega)]; exact cell_of_row w0 _ 1 _ _ _ hk1
  have e1 : (w3.setCell ⟨w.heap.size, 1, none⟩ (.slice a' l.length c')).heap[w.heap.size + 1]? = some (.cells #[.float .f64 0, .slice none 0 0] 48 (0, 0)) := by
    rw [heap_setCell_other _ _ _ _ (by show w.heap.size + 1 ≠ w.heap.size; omega)]; exact q1
  have e2 := heap_setCell_same _ _ 0 _ _ (.float .f64 P) e1
  have e3 := heap_setCell_same _ _ 1 _ _ (.slice a' l.length c') e2
  have HR := hid e3
  have hlt : ∀ b, (Value.slice a' l.length c').ownBlock = some b → w.heap.size + 2 ≤ b := fun b hb9 => (ho.lt b hb9).1
  have hn0 : (Value.slice a' l.length c').ownBlock ≠ some w.heap.size := fun h9 => by have := hlt _ h9; omega
  have hn1 : (Value.slice a' l.length c').ownBlock ≠ some (w.heap.size + 1) := fun h9 => by have := hlt _ h9; omega
  have HO := hid (own_mono (base' := w.heap.size) (own_other (own_other (own_other ho (p := ⟨w.heap.size, 1, none⟩) hn0 (.slice a' l.length c')) (p := ⟨w.heap.size + 1, 0, none⟩) hn1 (.float .f64 P)) (p := ⟨w.heap.size + 1, 1, none⟩) hn1 (.slice a' l.length c')) (Nat.le_add_right _ 2))
  have HB := hid ((((hb0.trans (hb.mono (Nat.le_add_right _ 2))).setCell (p := ⟨w.heap.size, 1, none⟩) (Nat.le_refl _) (.slice a' l.length c')).setCell (p := ⟨w.heap.size + 1, 0, none⟩) (Nat.le_succ _) (.float .f64 P)).setCell (p := ⟨w.heap.size + 1, 1, none⟩) (Nat.le_succ _) (.slice a' l.length c'))
  clear e1 e2 e3 hlt hn0 hn1
  clear ho hb hk0 hk1 q0 q1 hb0 hsz
  go_wp2_with fail
  (try simp only [Exit.inBlock, Exit.then])
  refine bodyPost_ret (results_cell_row rfl _ _ _ _ _ _ _ rfl HR.out Try.underlying48 rfl (by kernel_rfl)) rfl ?_
  exact ⟨_, rfl, HO.out, HB.out⟩

/-! a row of classes that a call makes -/
def Cl (ps : List (Nat × Value)) : List Value := ps.flatMap fun p => [.float .f64 p.1, p.2]
theorem Cl_app (a b : List (Nat × Value)) : Cl (a ++ b) = Cl a ++ Cl b := by simp [Cl]
theorem Cl_len (ps : List (Nat × Value)) : (Cl ps).length = ps.length * 2 := by
  induction ps with
  | nil => rfl
  | cons p ps ih =>
    have e : Cl (p :: ps) = [.float .f64 p.1, p.2] ++ Cl ps := rfl
    rw [e, List.length_append, ih]; simp; omega
theorem Cl_get {ps : List (Nat × Value)} {j : Nat} (h : j < ps.length) : (Cl ps)[j * 2]? = some (.float .f64 ps[j].1) ∧ (Cl ps)[j * 2 + 1]? = some ps[j].2 := by
  induction ps generalizing j with
  | nil => cases h
  | cons p ps ih =>
    have e : Cl (p :: ps) = .float .f64 p.1 :: p.2 :: Cl ps := rfl
    rw [e]
    cases j with
    | zero => exact ⟨rfl, rfl⟩
    | succ j =>
      have := ih (j := j) (by simpa using h)
      rw [show (j + 1) * 2 = j * 2 + 1 + 1 from by omega]
      simpa using this
theorem Cl_one (P : Nat) (a : Option Addr) (n c : Nat) : ∀ u ∈ [Value.float .f64 P, Value.slice a n c], u.oneCell' = true := by
  intro u hu
  simp only [List.mem_cons, List.not_mem_nil, or_false] at hu
  rcases hu with rfl | rfl <;> rfl

theorem Sl_grown {w w' : World} {v : Value} {xs : List Value} {row : Option Nat} (h : Sl w v xs) (hg : w.grownBy w' row) (hne : ∀ b, v.ownBlock = some b → row ≠ some b) : Sl w' v xs := by
  obtain ⟨a, cap, rfl, hc, hm, h⟩ := h
  refine ⟨a, cap, rfl, hc, hm, ?_⟩
  rcases h with h | ⟨b, off, rfl, hlt, hcell⟩
  · exact Or.inl h
  · have he := hg.block b hlt (fun e => hne b rfl e.symm)
    refine Or.inr ⟨b, off, rfl, by have := hg.size; omega, fun j u hj => ?_⟩
    rw [World.cell?_of_block (a := ⟨b, off + j, none⟩) he]
    exact hcell j u hj

/-- the classes so far, none of their chances in the row itself -/
structure Fr (w : World) (out : Value) (ps : List (Nat × Value)) (fs : List (Nat × List Nat)) : Prop where
  el : ∀ j (h : j < ps.length), ps[j].1 = prA fs j ∧ Sl w ps[j].2 (Fb (csA fs j)) ∧ ∀ b, ps[j].2.ownBlock = some b → b < w.heap.size ∧ out.ownBlock ≠ some b

theorem Fl_of_Fr {w : World} {base n : Nat} {out : Value} {ps : List (Nat × Value)} {fs : List (Nat × List Nat)} (ho : w.ownsRow base 48 2 out n (Cl ps)) (hF : Fr w out ps fs) (hp : ps.length = n) (hn : fs.length = n) : Fl w out fs := by
  rcases ho.2 with ⟨rfl, h0⟩ | ⟨g, cap, cur, rfl, hbg, hg, hnc, hcm, _⟩
  · exact ⟨none, 0, by rw [hn, h0], by omega, by unfold maxLen; omega, fun _ => rfl, Or.inl (List.eq_nil_of_length_eq_zero (by omega))⟩
  · refine ⟨_, cap, by rw [hn], by omega, hcm, (fun h => by cases h), Or.inr ⟨g, 0, rfl, (Array.getElem?_eq_some_iff.1 hg).1, fun j f hj => ?_⟩⟩
    have hjl : j < fs.length := by
      rcases Nat.lt_or_ge j fs.length with h | h
      · exact h
      · rw [List.getElem?_eq_none h] at hj; cases hj
    have hjp : j < ps.length := by omega
    obtain ⟨e1, e2, _⟩ := hF.el j hjp
    obtain ⟨c1, c2⟩ := Cl_get hjp
    have k1 := ho.cells (g := g) rfl _ _ c1
    have k2 := ho.cells (g := g) rfl _ _ c2
    rw [addr_add] at k1 k2
    rw [prA_get hjl] at e1
    rw [csA_get hjl] at e2
    have hf : f = fs[j] := by
      rw [List.getElem?_eq_getElem hjl] at hj
      injection hj with hj; exact hj.symm
    subst hf
    exact ⟨_, by rw [← e1]; exact k1, k2, e2⟩

theorem cell_two_new (w : World) (x y : Value) (t : TypeId) (g : Nat) (hg : g = w.heap.size) : ∀ j u, [x, y][j]? = some u → (w.alloc (.cells #[x, y] t)).cell? ((⟨g, 0, none⟩ : Addr).add j) = some u := by
  intro j u hj
  subst hg
  rw [addr_add, Nat.zero_add]
  have := World.cell?_alloc_new w #[x, y] t j
  rw [this]
  simpa using hj

theorem Fr_snoc {w w3 w4 : World} {base B n m : Nat} {out v4 : Value} {ps : List (Nat × Value)} {fs : List (Nat × List Nat)} {P : Nat} {cv3 : Value} {X Y : Obj} (hF : Fr w out ps fs) (hps : ps.length = n)
    (ho : w.ownsRow base 48 2 out n (Cl ps)) (hb3 : Below w.heap.size w w3) (hB : B = w.heap.size) (ho3 : w3.ownsRow B 33 1 cv3 m (Fb (csA fs n))) (hP : prA fs n = P)
    (hgr : ((w3.alloc X).alloc Y).grownBy w4 out.ownBlock) (hat : v4.ownBlock = out.ownBlock ∨ v4.ownBlock = some ((w3.alloc X).alloc Y).heap.size) : Fr w4 v4 (ps ++ [(P, cv3)]) fs := by
  subst hB
  have hs3 := hb3.size
  have hs4 := hgr.size
  have hz : ((w3.alloc X).alloc Y).heap.size = w3.heap.size + 2 := by simp
  rw [hz] at hs4 hat
  have new : ∀ b, cv3.ownBlock = some b → b < w3.heap.size ∧ out.ownBlock ≠ some b := fun b hb => by
    have h1 := ho3.lt b hb
    exact ⟨h1.2, fun h2 => by have := ho.lt b h2; omega⟩
  refine ⟨fun j hj => ?_⟩
  by_cases e : j < ps.length
  · rw [List.getElem_append_left e]
    obtain ⟨e1, e2, e3⟩ := hF.el j e
    refine ⟨e1, Sl_grown (Sl_below (Sl_below (Sl_below e2 hb3 (Nat.le_refl _)) ((Below.refl w3.heap.size w3).alloc (Nat.le_refl _) X) (Nat.le_refl _)) ((Below.refl (w3.alloc X).heap.size (w3.alloc X)).alloc (Nat.le_refl _) Y) (Nat.le_refl _)) hgr (fun b hb => (e3 b hb).2), fun b hb => ?_⟩
    obtain ⟨k1, k2⟩ := e3 b hb
    refine ⟨by omega, ?_⟩
    rcases hat with h | h
    · rw [h]; exact k2
    · rw [h]; intro h9; injection h9 with h9; omega
  · have hje : j = ps.length := by rw [List.length_append] at hj; simp at hj; omega
    subst hje
    have hg : (ps ++ [(P, cv3)])[ps.length] = (P, cv3) := by simp
    rw [hg]
    refine ⟨by rw [hps]; exact hP.symm, ?_, fun b hb => ?_⟩
    · rw [hps]
      exact Sl_grown (Sl_below (Sl_below (Sl_of_own ho3) ((Below.refl w3.heap.size w3).alloc (Nat.le_refl _) X) (Nat.le_refl _)) ((Below.refl (w3.alloc X).heap.size (w3.alloc X)).alloc (Nat.le_refl _) Y) (Nat.le_refl _)) hgr (fun b hb => (new b hb).2)
    · obtain ⟨k1, k2⟩ := new b hb
      refine ⟨by omega, ?_⟩
      rcases hat with h | h
      · rw [h]; exact k2
      · rw [h]; intro h9; injection h9 with h9; omega

set_option maxRecDepth 8000 in
set_option maxHeartbeats 2000000 in
theorem copyFares_any (v : Value) (fs : List (Nat × List Nat)) (w : World) (hv : Fl w v fs) (hl : fs.length * 32 ≤ 140737488351232) (hc8 : ∀ k, (csA fs k).length * 8 ≤ 140737488351232) :
    Calls Try.prog 27 #[v] w fun e w' => ∃ v', e = .returned v' ∧ Fl w' v' fs ∧ Below w.heap.size w w' := by
  obtain ⟨a, c, rfl, hc, hcm, hnone⟩ := Fl_parts hv
  obtain ⟨n, hn⟩ : ∃ n, fs.length = n := ⟨_, rfl⟩
  obtain ⟨i0, hi, hz0, hz1, hz2⟩ := info_parts info48
  have HI := hid hi
  have HZ := hid hz2
  have HV := hid hv
  have HN := hid hn
  have HC8 := hid hc8
  rw [hn] at hc HV hl ⊢
  unfold maxLen at hcm
  clear hv hn hi hz2 hc8
  have hstf := store_run
  go_enter Try.func27, Try.ntmps27
  go_wp2_with fail
  go_loopw [3, 4] (fun out i wr => ∃ (k : Nat) (ps : List (Nat × Value)), k ≤ n ∧ i = .int .i64 k ∧ ps.length = k ∧ wr.ownsRow w.heap.size 48 2 out k (Cl ps) ∧ Fr wr out ps fs ∧ Below w.heap.size w wr) (fun _ i _ => n - (intOf i).toNat)
  case atStart => exact ⟨0, [], by omega, rfl, rfl, World.ownsRow_nil _ _ _ _, ⟨fun j h => by cases h⟩, Below.refl _ _⟩
  case round =>
    obtain ⟨k, ps, hk, rfl, hps, hoR, hF, hbR⟩ := hrel
    have HOR := hid hoR
    have HFR := hid hF
    have HBR := hid hbR
    have HPS := hid hps
    clear hoR hF hbR hps
    by_cases hlt : k < n
    · have hlt' : (k : Int) < (n : Int) := by omega
      obtain ⟨b, off, cv, rfl, hbl, q1, q2, q3⟩ := Fl_cell (k := k) (Fl_below HV.out HBR.out (Nat.le_refl _)) (by rw [HN.out]; exact hlt)
      have HC := hid q3
      obtain ⟨ca, cc, rfl, hcc, hccm, hcn⟩ := Sl_partsF HC.out
      clear q3
      obtain ⟨P, hP⟩ : ∃ P, prA fs k = P := ⟨_, rfl⟩
      rw [hP] at q1
      have HP := hid hP
      clear hP
      go_wp2_with fail
      refine (copyFare_any P _ (csA fs k) _ HC.out (by have := HC8.out k; omega)).mono ?_
      rintro e w3 ⟨cv3, rfl, ho3, hb3⟩
      obtain ⟨a3, c3, rfl, hc3, hcm3⟩ := own_form ho3
      have hor3 := own_below HOR.out hb3 (Nat.le_refl _)
      have HO3 := hid ho3
      have HB3 := hid hb3
      have HOR3 := hid hor3
      have HZ3 := hid (show w.heap.size ≤ w3.heap.size from Nat.le_trans HBR.out.size hb3.size)
      clear ho3 hb3 hor3
      go_wp2_with (at_builtin; refine wpList_append_own_at _ rfl _ _ 22 rfl w.heap.size 48 i0 (.agg #[.float .f64 0, .slice none 0 0]) 2 32 Try.underlying22 HI.out hz0 hz1 HZ.out rfl (by decide) _ k (Cl ps) rfl ((HOR3.out.alloc _).alloc _) ⟨w3.heap.size + 1, 0, none⟩ 1 1 [.float .f64 P, .slice a3 (csA fs k).length c3] rfl rfl (cell_two_new _ _ _ _ _ (by simp)) (Cl_one _ _ _ _) (by unfold maxLen; omega) (by omega) (by have := HZ3.out; simp; omega) ?_; intro v4 w4 hown hgrow _ hat)
      have hF4 := Fr_snoc HFR.out HPS.out HOR.out HB3.out rfl HO3.out HP.out hgrow hat
      have hb4 := (((HBR.out.trans (HB3.out.mono HBR.out.size)).alloc HZ3.out (.cells #[.float .f64 P, .slice a3 (csA fs k).length c3] 48)).alloc (by have := HZ3.out; simp; omega) (.cells #[.float .f64 P, .slice a3 (csA fs k).length c3] 48)).grown hgrow (by have := HZ3.out; simp; omega) (fun q hq => (HOR.out.lt q hq).1)
      have ho4 : w4.ownsRow w.heap.size 48 2 v4 (k + 1) (Cl (ps ++ [(P, .slice a3 (csA fs k).length c3)])) := by rw [Cl_app]; exact hown
      have HF4 := hid hF4
      have HB4 := hid hb4
      have HO4 := hid ho4
      clear hF4 hb4 ho4 hown hgrow hat
      go_roundw
      case rel => exact ⟨k + 1, _, by omega, by go_num, by rw [List.length_append, HPS.out]; rfl, HO4.out, HF4.out, HB4.out⟩
      case measure => simp [intOf]; omega
    · obtain rfl : k = n := by omega
      go_wp2_with fail
      go_ret
      exact ⟨_, rfl, Fl_of_Fr HOR.out HFR.out HPS.out HN.out, HBR.out⟩
end Go.Proofs.Ytnaogcpcaabbhaa
