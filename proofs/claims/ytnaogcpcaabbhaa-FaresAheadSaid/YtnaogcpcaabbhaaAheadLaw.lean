/- The law FaresAhead. -/
import Derived.Test.YtnaogcpcaabbhaaCopy
import Derived.Test.YtnaogcpcaabbhaaSureLaw
namespace Go.Proofs.Ytnaogcpcaabbhaa
open Go.RowKit FloatPlain

theorem Fl_take {w : World} {a : Option Addr} {n c j : Nat} {fs : List (Nat × List Nat)} (h : Fl w (.slice a n c) fs) (hj : j ≤ fs.length) : Fl w (.slice a j c) (fs.take j) := by
  obtain ⟨a', c', e, hc, hm, hn, h⟩ := h
  injection e with e1 e2 e3
  subst e1 e2 e3
  refine ⟨a, c, by rw [List.length_take, Nat.min_eq_left hj], by rw [List.length_take]; omega, hm, hn, ?_⟩
  rcases h with h | ⟨b, off, ha, hlt, hcell⟩
  · left; rw [h]; simp
  · refine Or.inr ⟨b, off, ha, hlt, fun i f hi => hcell i f ?_⟩
    rw [List.getElem?_take] at hi
    split at hi
    · exact hi
    · cases hi

theorem Sl_upto {w : World} {a : Option Addr} {n c j : Nat} {xs : List Value} (h : Sl w (.slice a n c) xs) (hj : j ≤ xs.length) : Sl w (.slice a j c) (xs.take j) := by
  obtain ⟨a', c', e, hc, hm, h⟩ := h
  injection e with e1 e2 e3
  subst e1 e2 e3
  refine ⟨a, c, by rw [List.length_take, Nat.min_eq_left hj], by rw [List.length_take]; omega, hm, ?_⟩
  rcases h with ⟨h, h0⟩ | ⟨b, off, ha, hlt, hcell⟩
  · left; rw [h]; exact ⟨by simp, h0⟩
  · refine Or.inr ⟨b, off, ha, hlt, fun i f hi => hcell i f ?_⟩
    rw [List.getElem?_take] at hi
    split at hi
    · exact hi
    · cases hi

theorem prA_take {fs : List (Nat × List Nat)} {j k : Nat} (h : k < j) : prA (fs.take j) k = prA fs k ∧ csA (fs.take j) k = csA fs k := by
  have e : (fs.take j)[k]? = fs[k]? := by rw [List.getElem?_take, if_pos h]
  unfold prA csA
  rw [List.getD_eq_getElem?_getD, List.getD_eq_getElem?_getD, e]
  exact ⟨rfl, rfl⟩
theorem wf_take {fs : List (Nat × List Nat)} (h : Wf fs) (j : Nat) : Wf (fs.take j) := by
  have e : ∀ k, (prA (fs.take j) k = prA fs k ∧ csA (fs.take j) k = csA fs k) ∨ (prA (fs.take j) k = 0 ∧ csA (fs.take j) k = []) := by
    intro k
    rcases Nat.lt_or_ge k j with c | c
    · exact Or.inl (prA_take c)
    · right
      have : (fs.take j)[k]? = none := List.getElem?_eq_none (by rw [List.length_take]; omega)
      unfold prA csA
      rw [List.getD_eq_getElem?_getD, this]
      exact ⟨rfl, rfl⟩
  constructor
  · intro k
    rcases e k with ⟨h1, _⟩ | ⟨h1, _⟩
    · rw [h1]; exact h.1 k
    · rw [h1]; decide
  · intro k i
    rcases e k with ⟨_, h1⟩ | ⟨_, h1⟩
    · rw [h1]; exact h.2 k i
    · rw [h1, at0_ge (Nat.zero_le _)]; decide
theorem cs_take {fs : List (Nat × List Nat)} (j k : Nat) {B : Nat} (h : ∀ k, (csA fs k).length * 8 ≤ B) : (csA (fs.take j) k).length * 8 ≤ B := by
  rcases Nat.lt_or_ge k j with c | c
  · rw [(prA_take c).2]; exact h k
  · have : (fs.take j)[k]? = none := List.getElem?_eq_none (by rw [List.length_take]; omega)
    unfold csA
    rw [List.getD_eq_getElem?_getD, this]
    simp
theorem good_take {fs : List (Nat × List Nat)} (h : GoodF fs) {j : Nat} (h1 : 1 ≤ j) (hj : j ≤ fs.length) : GoodF (fs.take j) := by
  have hl : (fs.take j).length = j := by rw [List.length_take, Nat.min_eq_left hj]
  refine ⟨by omega, by rw [hl]; have := h.2.1; omega, fun k hk => ?_⟩
  rw [hl] at hk
  obtain ⟨h2, h3⟩ := h.2.2 k (by omega)
  refine ⟨?_, by rw [(prA_take hk).2]; exact h3⟩
  rw [(prA_take hk).1]
  have e : lastP (fs.take j) k = lastP fs k := by
    unfold lastP
    split
    · rfl
    · exact (prA_take (by omega)).1
  rw [e]; exact h2
theorem val_take {fs : List (Nat × List Nat)} (s : Nat) {j k : Nat} (h : k ≤ j) : val0 (fs.take j) s k = val0 fs s k := by
  unfold val0
  rw [List.take_take, Nat.min_eq_left h]
theorem lims_take {fs : List (Nat × List Nat)} (s : Nat) {j : Nat} (hj : j ≤ fs.length) : lims (fs.take j) s = (lims fs s).take j := by
  unfold lims
  rw [← List.map_take, List.take_range, List.length_take, Nat.min_comm]
  have e : min fs.length j = min j fs.length := Nat.min_comm _ _
  apply List.map_congr_left
  intro i hi
  have hij : i < j := by have := List.mem_range.1 hi; omega
  unfold limOf
  rw [(prA_take hij).1, val_take s (by omega)]

theorem lim_zero {P : Nat} (hP : Dear P) (n : Nat) : ∀ l, limGo P (zeros n) l = l := by
  intro l
  induction l with
  | zero => rfl
  | succ l ih =>
    rw [limGo_yes, ih]
    have hz : zeros n = List.replicate n 0 := rfl
    rw [hz, at0_rep, at0_rep]
    have h := add_nn hP.1 zero_pos (k := two 40) (by rw [val_zero]; exact hP.2)
    have hp : Pos (fadd P 0) := Nat.lt_of_le_of_lt h.2.1 (two_pos (by omega))
    unfold geB
    rw [cmp_gt hp.fin zero_pos.fin, cmp_eq hp.fin zero_pos.fin, hp.num, zero_pos.num, val_zero]
    simp only [Bool.or_eq_true, decide_eq_true_eq]
    omega

theorem lim_spec (P : Nat) (q : List Nat) : ∀ s u, 1 ≤ u → u ≤ s → (u ≤ limGo P q s → geB (fadd P (at0 q (s - u))) (at0 q (s - u + 1)) = true) ∧ (u = limGo P q s + 1 → geB (fadd P (at0 q (s - u))) (at0 q (s - u + 1)) = false) := by
  intro s
  induction s with
  | zero => intro u h1 h2; omega
  | succ l ih =>
    intro u h1 h2
    cases hg : geB (fadd P (at0 q l)) (at0 q (l + 1)) with
    | true =>
      rw [limGo_yes hg]
      by_cases e : u = 1
      · subst e
        rw [Nat.add_sub_cancel]
        exact ⟨fun _ => hg, fun h => by omega⟩
      · have := ih (u - 1) (by omega) (by omega)
        rw [show l - (u - 1) = l + 1 - u from by omega] at this
        exact ⟨fun h => this.1 (by omega), fun h => this.2 (by omega)⟩
    | false =>
      rw [limGo_no hg]
      refine ⟨fun h => by omega, fun h => ?_⟩
      obtain rfl : u = 1 := by omega
      rw [Nat.add_sub_cancel]; exact hg

theorem ge_lt {a b : Nat} (ha : Pos a) (hb : Pos b) (h : geB a b = true) : (FloatKind.f64.format.order a b == some .lt) = false := by
  show (Ieee.double.order a b == some .lt) = false
  unfold geB at h
  rw [cmp_gt ha.fin hb.fin, cmp_eq ha.fin hb.fin] at h
  rw [cmp_lt ha.fin hb.fin, decide_eq_false_iff_not]
  simp only [Bool.or_eq_true, decide_eq_true_eq] at h
  omega

theorem zero_eq : (FloatKind.f64.format.order 0 0 == some .eq) = true := by kernel_rfl
theorem zero_ne : (FloatKind.f64.format.order 0 0 != some .eq) = false := by kernel_rfl

set_option maxRecDepth 8000 in
set_option maxHeartbeats 2000000 in
theorem faresAhead_no (v : Value) (fs : List (Nat × List Nat)) (s : Int) (w : World) (hv : Fl w v fs) (hwf : Wf fs) (hl : fs.length * 32 ≤ 140737488351232) (hc8 : ∀ k, (csA fs k).length * 8 ≤ 140737488351232) (h : ¬ (GoodF fs ∧ 0 ≤ s ∧ s ≤ 1024)) :
    Calls Try.prog 7 #[v, .int .i64 s] w fun e w' => e = .returned (.bool true) ∧ Below w.heap.size w w' := by
  have hne : ¬ err fs s = 0 := by
    unfold err
    split
    · rename_i hg
      rw [if_neg (fun h9 => h ⟨hg, h9⟩)]; decide
    · decide
  obtain ⟨E, hE⟩ : ∃ E, err fs s = E := ⟨_, rfl⟩
  rw [hE] at hne
  have HE := hid hE
  have HV := hid hv
  have HWF := hid hwf
  have H := hid h
  have HC8 := hid hc8
  have HL := hid hl
  clear hv hwf h hE hc8 hl
  have hzz := zero_eq
  go_enter Try.func7, Try.ntmps7
  go_wp2_with fail
  refine (awake_any _).mono ?_
  rintro e w1 ⟨rfl, hb⟩
  have HB1 := hid hb
  clear hb
  go_wp2_with fail
  refine (copyFares_any _ fs _ (Fl_below HV.out HB1.out (Nat.le_refl _)) HL.out HC8.out).mono ?_
  rintro e w2 ⟨v2, rfl, hf, hb⟩
  have HF2 := hid hf
  have HB2 := hid (HB1.out.trans (hb.mono HB1.out.size))
  clear hf hb
  go_wp2_with fail
  refine (limits_no _ fs s _ HF2.out HWF.out H.out).mono ?_
  rintro e w3 ⟨rfl, hb⟩
  rw [HE.out]
  have HB3 := hid (HB2.out.trans (hb.mono HB2.out.size))
  clear hb
  go_wp2_with fail
  refine (copyFares_any _ fs _ (Fl_below HV.out HB3.out (Nat.le_refl _)) HL.out HC8.out).mono ?_
  rintro e w4 ⟨v4, rfl, hf, hb⟩
  have HF4 := hid hf
  have HB4 := hid (HB3.out.trans (hb.mono HB3.out.size))
  clear hf hb
  go_wp2_with fail
  refine (values_no _ fs s _ HF4.out HWF.out H.out).mono ?_
  rintro e w5 ⟨rfl, hb⟩
  rw [HE.out]
  have HB5 := hid (HB4.out.trans (hb.mono HB4.out.size))
  clear hb
  go_wp2_with fail
  refine (copyFares_any _ fs _ (Fl_below HV.out HB5.out (Nat.le_refl _)) HL.out HC8.out).mono ?_
  rintro e w6 ⟨v6, rfl, hf, hb⟩
  have HF6 := hid hf
  have HB6 := hid (HB5.out.trans (hb.mono HB5.out.size))
  clear hf hb
  go_wp2_with fail
  refine (bid_no _ fs s _ HF6.out HWF.out H.out).mono ?_
  rintro e w7 ⟨rfl, hb⟩
  rw [HE.out]
  have HB7 := hid (HB6.out.trans (hb.mono HB6.out.size))
  clear hb
  go_wp2_with fail
  go_ret
  exact ⟨rfl, HB7.out⟩

set_option maxRecDepth 8000 in
set_option maxHeartbeats 8000000 in
theorem faresAhead_yes (v : Value) (fs : List (Nat × List Nat)) (s : Nat) (w : World) (hv : Fl w v fs) (hwf : Wf fs) (hl : fs.length * 32 ≤ 140737488351232) (hc8 : ∀ k, (csA fs k).length * 8 ≤ 140737488351232) (hg : GoodF fs) (hs : s ≤ 1024) :
    Calls Try.prog 7 #[v, .int .i64 s] w fun e w' => e = .returned (.bool true) ∧ Below w.heap.size w w' := by
  have HG := hid hg
  have HWF := hid hwf
  have HC8 := hid hc8
  have HL := hid hl
  obtain ⟨n, hn⟩ : ∃ n, fs.length = n := ⟨_, rfl⟩
  have HN := hid hn
  have hn1 : 1 ≤ n := by rw [← hn]; exact hg.1
  have hn16 : n ≤ 16 := by rw [← hn]; exact hg.2.1
  obtain ⟨b0, off0, c0, rfl, hb0⟩ : ∃ b off c, v = .slice (some ⟨b, off, none⟩) n c ∧ b < w.heap.size := by
    obtain ⟨a, c, rfl, _⟩ := Fl_parts hv
    obtain ⟨b, off, cv, rfl, hb, _⟩ := Fl_cell (k := 0) hv (by omega)
    exact ⟨b, off, c, by rw [hn], hb⟩
  have hnc : n ≤ c0 ∧ c0 ≤ maxLen := by
    obtain ⟨a, c, e, h1, h2, _⟩ := hv
    injection e with e1 e2 e3
    subst e3
    exact ⟨by omega, h2⟩
  obtain ⟨hnc, hcm⟩ := hnc
  unfold maxLen at hcm
  have HV := hid hv
  have HB0 := hid hb0
  clear hv hwf hl hc8 hg hn hb0
  have hzz := zero_ne
  have hss : (0 : Int) ≤ (s : Int) ∧ (s : Int) ≤ 1024 := by omega
  have hwsp : IntKind.i64.wrap ((s : Int) + 1) = (s : Int) + 1 := by rw [IntKind.wrap_i64]; omega
  go_enter Try.func7, Try.ntmps7
  go_wp2_with fail
  refine (awake_any _).mono ?_
  rintro e w1 ⟨rfl, hb⟩
  have HB1 := hid hb
  clear hb
  go_wp2_with fail
  refine (copyFares_any _ fs _ (Fl_below HV.out HB1.out (Nat.le_refl _)) HL.out HC8.out).mono ?_
  rintro e w2 ⟨v2, rfl, hf, hb⟩
  have HF2 := hid hf
  have HB2 := hid (HB1.out.trans (hb.mono HB1.out.size))
  clear hf hb
  go_wp2_with fail
  refine (limits_any _ fs s _ HF2.out HWF.out HG.out hs).mono ?_
  rintro e w3 ⟨v3, rfl, ho, hb⟩
  rw [HN.out] at ho
  obtain ⟨gl, cl, rfl, hcl, _⟩ := own_some ho (by omega)
  have HN3 := hid ho
  have HB3 := hid (HB2.out.trans (hb.mono HB2.out.size))
  clear ho hb
  go_wp2_with fail
  refine (copyFares_any _ fs _ (Fl_below HV.out HB3.out (Nat.le_refl _)) HL.out HC8.out).mono ?_
  rintro e w4 ⟨v4, rfl, hf, hb⟩
  have HF4 := hid hf
  have HB4 := hid (HB3.out.trans (hb.mono HB3.out.size))
  have HN4 := hid (own_below HN3.out hb (Nat.le_refl _))
  clear hf hb
  go_wp2_with fail
  refine (values_any _ fs s _ HF4.out HWF.out HG.out hs).mono ?_
  rintro e w5 ⟨v5, rfl, ho, hb⟩
  obtain ⟨gv, cv, rfl, hcv, _⟩ := own_some ho (by omega)
  have HV5 := hid ho
  have HB5 := hid (HB4.out.trans (hb.mono HB4.out.size))
  have HN5 := hid (own_below HN4.out hb (Nat.le_refl _))
  clear ho hb
  go_wp2_with fail
  refine (copyFares_any _ fs _ (Fl_below HV.out HB5.out (Nat.le_refl _)) HL.out HC8.out).mono ?_
  rintro e w6 ⟨v6, rfl, hf, hb⟩
  have HF6 := hid hf
  have HB6 := hid (HB5.out.trans (hb.mono HB5.out.size))
  have HN6 := hid (own_below HN5.out hb (Nat.le_refl _))
  have HV6 := hid (own_below HV5.out hb (Nat.le_refl _))
  clear hf hb
  go_wp2_with fail
  refine (bid_any _ fs s _ HF6.out HWF.out HG.out hs).mono ?_
  rintro e w7 ⟨rfl, hb⟩
  have HB7 := hid (HB6.out.trans (hb.mono HB6.out.size))
  have HN7 := hid (own_below HN6.out hb (Nat.le_refl _))
  have HV7 := hid (own_below HV6.out hb (Nat.le_refl _))
  clear hb
  have hl0 : w7.cell? ⟨gl, 0, none⟩ = some (.int .i64 (s : Int)) := by
    have h9 := HN7.out.cellAt 0 (by omega)
    rw [Ib_get (by rw [lims_len, HN.out]; omega)] at h9
    have e9 : at0 (lims fs s) 0 = s := by
      rw [at0_lt (by rw [lims_len, HN.out]; omega)]
      simp only [lims, List.getElem_map, List.getElem_range]
      exact lim_zero (elem_dear HWF.out (fun j hj => HG.out.2.2 j (by rw [HN.out]; omega))) _ _
    rw [e9] at h9
    exact h9
  have hnn : (0 : Int) < (n : Int) := by omega
  by_cases hs0 : s = 0
  case' pos =>
    have hbz : bidOf fs s = 0 := by unfold bidOf; rw [if_pos hs0]
    rw [hbz]
    have hspn : ¬ (0 < s) := by omega
    have hspd : decide (0 < s) = false := decide_eq_false hspn
    have hbe : ((s : Int) == 0) = true := by rw [beq_iff_eq]; omega
    have hde : decide (s = 0) = true := decide_eq_true hs0
    clear hbz hs0
    go_wp2_with fail
    go_big_quiet (fail)
  case' neg =>
    have hsp : (0 : Int) < (s : Int) := by omega
    have hspn : 0 < s := by omega
    have hspd : decide (0 < s) = true := decide_eq_true hspn
    have hbe : ((s : Int) == 0) = false := by rw [beq_eq_false_iff_ne]; omega
    have hde : decide (s = 0) = false := decide_eq_false hs0
    have hsz : ¬ (s : Int) = 0 := by omega
    have hw1 : IntKind.i64.wrap ((s : Int) - 1) = ((s - 1 : Nat) : Int) := by rw [IntKind.wrap_i64]; omega
    have hlt1 : (s : Int) < (s : Int) + 1 := by omega
    have hlt2 : ((s - 1 : Nat) : Int) < (s : Int) + 1 := by omega
    obtain ⟨D, hD⟩ : ∃ D, fsub (at0 (val0 fs s fs.length) s) (at0 (val0 fs s fs.length) (s - 1)) = D := ⟨_, rfl⟩
    have hbz : bidOf fs s = D := by unfold bidOf; rw [if_neg hs0, hD]
    rw [hbz]
    have hq1 := HV7.out.cellAt s (by omega)
    rw [Fb_get (by rw [val0_len]; omega)] at hq1
    have hq2 := HV7.out.cellAt (s - 1) (by omega)
    rw [Fb_get (by rw [val0_len]; omega)] at hq2
    have hp := (val0_bound HWF.out HG.out s fs.length).pos (by omega)
    have hop := sub_run (sub_some (hp s).fin (hp (s - 1)).fin)
    rw [hD] at hop
    generalize at0 (val0 fs s fs.length) s = A at hq1 hop
    generalize at0 (val0 fs s fs.length) (s - 1) = A' at hq2 hop
    clear hp hD hbz hs0
    go_wp2_with fail
    go_big_quiet (first | (go_at_call 22; refine Calls.quiet_of_same ((bits_any D _).mono fun e w' h => ⟨h.1, h.2.symm⟩)))
    clear hop hq1 hq2 hsp hsz hw1 hlt1 hlt2
  all_goals
    have hN8 := own_below HN7.out (below_drewN (Below.refl w7.heap.size w7) nq) (Nat.le_refl _)
    have hB8 := below_drewN HB7.out nq
    obtain ⟨w8, hw8⟩ : ∃ w8, w7.drewN nq = w8 := ⟨_, rfl⟩
    rw [hw8] at hN8 hB8 ⊢
    have HN8 := hid hN8
    have HB8 := hid hB8
    clear hN8 hB8 hw8 hl0 hspn hspd hbe hde
    by_cases h300 : 300 < s
    · have h300' : (300 : Int) < (s : Int) := by omega
      clear h300
      go_wp2_with fail
      go_ret
      exact ⟨rfl, HB8.out⟩
    have h300' : (s : Int) ≤ 300 := by omega
    clear h300
    go_wp2_with fail
    go_loopw [11] (fun i wr => ∃ j : Nat, 1 ≤ j ∧ j ≤ n ∧ i = .int .i64 j ∧ Below w8.heap.size w8 wr) (fun i _ => n - (intOf i).toNat)
    case atStart => exact ⟨1, by omega, by omega, rfl, Below.refl _ _⟩
    case round =>
      obtain ⟨j, hj1, hjn, rfl, hbR⟩ := hrel
      have HBR := hid hbR
      clear hbR
      have HBW := hid (HB8.out.trans (HBR.out.mono HB8.out.size))
      by_cases hlt : j < n
      · have hlt' : (j : Int) < (n : Int) := by omega
        have hjc : (j : Int) ≤ (c0 : Int) := by omega
        have hj0 : (0 : Int) ≤ (j : Int) := by omega
        have HT := hid (good_take HG.out hj1 (by rw [HN.out]; omega))
        have HTL := hid (show (fs.take j).length = j by rw [List.length_take, HN.out]; omega)
        have HTW := hid (wf_take HWF.out j)
        have HTB := hid (show (fs.take j).length * 32 ≤ 140737488351232 by rw [HTL.out]; omega)
        have HTC := hid (fun k => cs_take (fs := fs) j k HC8.out)
        go_wp2_with fail
        refine (copyFares_any _ (fs.take j) _ (Fl_take (Fl_below HV.out HBW.out (Nat.le_refl _)) (by rw [HN.out]; omega)) HTB.out HTC.out).mono ?_
        rintro e x2 ⟨y2, rfl, hf, hb⟩
        have HFa := hid hf
        have HBa := hid (HBR.out.trans (hb.mono HBR.out.size))
        clear hf hb
        go_wp2_with fail
        refine (values_any _ (fs.take j) s _ HFa.out HTW.out HT.out hs).mono ?_
        rintro e x3 ⟨y3, rfl, ho, hb⟩
        rw [HTL.out, val_take s (Nat.le_refl _)] at ho
        obtain ⟨gw, cw, rfl, hcw, _⟩ := own_some ho (by omega)
        have HWb := hid ho
        have HBb := hid (HBa.out.trans (hb.mono HBa.out.size))
        clear ho hb
        have HBc := hid (HB8.out.trans (HBb.out.mono HB8.out.size))
        go_wp2_with fail
        refine (copyFares_any _ (fs.take j) _ (Fl_take (Fl_below HV.out HBc.out (Nat.le_refl _)) (by rw [HN.out]; omega)) HTB.out HTC.out).mono ?_
        rintro e x4 ⟨y4, rfl, hf, hb⟩
        have HFd := hid hf
        have HBd := hid (HBb.out.trans (hb.mono HBb.out.size))
        have HWd := hid (own_below HWb.out hb (Nat.le_refl _))
        clear hf hb
        go_wp2_with fail
        refine (limits_any _ (fs.take j) s _ HFd.out HTW.out HT.out hs).mono ?_
        rintro e x5 ⟨y5, rfl, ho, hb⟩
        rw [lims_take s (by rw [HN.out]; omega)] at ho
        have HMe := hid (Sl_of_own ho)
        have HBe := hid (HBd.out.trans (hb.mono HBd.out.size))
        have HWe := hid (own_below HWd.out hb (Nat.le_refl _))
        have HNe := hid (own_below HN8.out HBe.out (Nat.le_refl _))
        clear ho hb
        obtain ⟨L, hL⟩ : ∃ L, limOf fs s j = L := ⟨_, rfl⟩
        have HLe := hid hL
        have hLs : L ≤ s := by rw [← hL]; exact limGo_le _ _ _
        have hnj := HNe.out.cellAt j (by omega)
        rw [Ib_get (by rw [lims_len, HN.out]; exact hlt)] at hnj
        have e9 : at0 (lims fs s) j = L := by
          rw [at0_lt (by rw [lims_len, HN.out]; exact hlt), ← hL]
          simp only [lims, List.getElem_map, List.getElem_range]
        rw [e9] at hnj
        clear e9 hL
        have hL0 : (0 : Int) ≤ (L : Int) := by omega
        have hLs' : (L : Int) ≤ (s : Int) := by omega
        have hjl : (j : Int) ≤ (cl : Int) := by omega
        have hd1 : decide ((L : Int) < 0) = false := decide_eq_false (by omega)
        have hd2 : decide ((s : Int) < (L : Int)) = false := decide_eq_false (by omega)
        have hd3 : decide (s < L) = false := decide_eq_false (by omega)
        go_wp2_with fail
        refine (sameInts_any _ _ ((lims fs s).take j) _ HMe.out (by
          have h9 := Sl_upto (j := j) (Sl_of_own HNe.out) (by rw [Ib_len, lims_len, HN.out]; omega)
          have e9 : (Ib (lims fs s)).take j = Ib ((lims fs s).take j) := by unfold Ib; rw [List.map_take]
          rw [e9] at h9
          exact h9) (by rw [List.length_take]; omega)).mono ?_
        rintro e x6 ⟨rfl, hb⟩
        have HBf := hid (HBe.out.trans (hb.mono HBe.out.size))
        have HWf := hid (own_below HWe.out hb (Nat.le_refl _))
        have HNf := hid (own_below HNe.out hb (Nat.le_refl _))
        have hnf : x6.cell? ⟨gl, j, none⟩ = some (.int .i64 (L : Int)) := by
          have h9 := HNf.out.cellAt j (by omega)
          rw [Ib_get (by rw [lims_len, HN.out]; exact hlt)] at h9
          have e9 : at0 (lims fs s) j = L := by
            rw [at0_lt (by rw [lims_len, HN.out]; exact hlt), ← HLe.out]
            simp only [lims, List.getElem_map, List.getElem_range]
          rw [e9] at h9
          exact h9
        clear hb hnj
        have HBg := hid (HB8.out.trans (HBf.out.mono HB8.out.size))
        have HSP := hid (lim_spec (prA fs j) (val0 fs s j) s)
        have HAS := hid (fun l => ahead_some HWF.out HG.out s j l (by rw [HN.out]; exact hlt))
        have HPW := hid ((val0_bound HWF.out HG.out s j).pos (by omega))
        obtain ⟨P, hP⟩ : ∃ P, prA fs j = P := ⟨_, rfl⟩
        have HP := hid hP
        rw [hP] at HSP HAS
        have HLL := hid (show limGo P (val0 fs s j) s = L by rw [← hP]; exact HLe.out)
        clear hP
        go_wp2_with fail
        go_loopw [16] (fun i wr => ∃ u : Nat, 1 ≤ u ∧ u ≤ L + 1 ∧ i = .int .i64 u ∧ Below x6.heap.size x6 wr) (fun i _ => L + 1 - (intOf i).toNat)
        case atStart => exact ⟨1, by omega, by omega, rfl, Below.refl _ _⟩
        case round =>
          obtain ⟨u, hu1, huL, rfl, hbU⟩ := hrel
          have HBU := hid hbU
          clear hbU
          have hnu : wr.cell? ⟨gl, j, none⟩ = some (.int .i64 (L : Int)) := by
            have h9 := HNf.out
            have h8 := (own_below h9 HBU.out (Nat.le_refl _)).cellAt j (by omega)
            rw [Ib_get (by rw [lims_len, HN.out]; exact hlt)] at h8
            have e9 : at0 (lims fs s) j = L := by
              rw [at0_lt (by rw [lims_len, HN.out]; exact hlt), ← HLe.out]
              simp only [lims, List.getElem_map, List.getElem_range]
            rw [e9] at h8
            exact h8
          have HBW2 := hid (HBg.out.trans (HBU.out.mono HBg.out.size))
          have HWU := hid (own_below HWf.out HBU.out (Nat.le_refl _))
          obtain ⟨bq, oq, cq, hq, hbq, qp, _⟩ := Fl_cell (k := j) (Fl_below HV.out HBW2.out (Nat.le_refl _)) (by rw [HN.out]; exact hlt)
          injection hq with hq
          injection hq with hq1 hq2
          subst hq1 hq2
          rw [HP.out] at qp
          by_cases hltu : u ≤ L
          · have hltu' : (u : Int) ≤ (L : Int) := by omega
            have hv1 : IntKind.i64.wrap ((s : Int) - (u : Int)) = ((s - u : Nat) : Int) := by rw [IntKind.wrap_i64]; omega
            have hv2 : IntKind.i64.wrap (((s - u : Nat) : Int) + 1) = ((s - u + 1 : Nat) : Int) := by rw [IntKind.wrap_i64]; omega
            have hlt4 : ((s - u : Nat) : Int) < (s : Int) + 1 := by omega
            have hlt5 : ((s - u + 1 : Nat) : Int) < (s : Int) + 1 := by omega
            have hr1 := HWU.out.cellAt (s - u) (by omega)
            rw [Fb_get (by rw [val0_len]; omega)] at hr1
            have hr2 := HWU.out.cellAt (s - u + 1) (by omega)
            rw [Fb_get (by rw [val0_len]; omega)] at hr2
            have hsp := (HSP.out u hu1 (by omega)).1 (by rw [HLL.out]; exact hltu)
            have hadd := add_run (HAS.out (s - u)).1
            have hnl := ge_lt (HAS.out (s - u)).2 (HPW.out (s - u + 1)) hsp
            generalize fadd P (at0 (val0 fs s j) (s - u)) = D9 at hadd hnl
            generalize at0 (val0 fs s j) (s - u) = A1 at hr1 hadd
            generalize at0 (val0 fs s j) (s - u + 1) = A2 at hr2 hnl
            clear hsp
            generalize s - u + 1 = z2 at hv2 hlt5 hr2
            generalize s - u = z1 at hv1 hv2 hlt4 hr1
            go_wp2_with fail
            go_big_quiet (fail)
            go_wp2_with fail
            go_roundw
            case rel => exact ⟨u + 1, by omega, by omega, by go_num, below_drewN HBU.out _⟩
            case measure => simp [intOf]; omega
          · obtain rfl : u = L + 1 := by omega
            have hgtu : (L : Int) < ((L + 1 : Nat) : Int) := by omega
            have hwL : IntKind.i64.wrap ((L : Int) + 1) = ((L + 1 : Nat) : Int) := by rw [IntKind.wrap_i64]; omega
            by_cases hLS : L + 1 ≤ s
            · have hv1 : IntKind.i64.wrap ((s : Int) - ((L + 1 : Nat) : Int)) = ((s - (L + 1) : Nat) : Int) := by rw [IntKind.wrap_i64]; omega
              have hv2 : IntKind.i64.wrap (((s - (L + 1) : Nat) : Int) + 1) = ((s - (L + 1) + 1 : Nat) : Int) := by rw [IntKind.wrap_i64]; omega
              have hlt4 : ((s - (L + 1) : Nat) : Int) < (s : Int) + 1 := by omega
              have hlt5 : ((s - (L + 1) + 1 : Nat) : Int) < (s : Int) + 1 := by omega
              have hr1 := HWU.out.cellAt (s - (L + 1)) (by omega)
              rw [Fb_get (by rw [val0_len]; omega)] at hr1
              have hr2 := HWU.out.cellAt (s - (L + 1) + 1) (by omega)
              rw [Fb_get (by rw [val0_len]; omega)] at hr2
              have hsp := (HSP.out (L + 1) (by omega) hLS).2 (by rw [HLL.out])
              have hadd := add_run (HAS.out (s - (L + 1))).1
              have hnl : (FloatKind.f64.format.order (fadd P (at0 (val0 fs s j) (s - (L + 1)))) (at0 (val0 fs s j) (s - (L + 1) + 1)) == some .gt || FloatKind.f64.format.order (fadd P (at0 (val0 fs s j) (s - (L + 1)))) (at0 (val0 fs s j) (s - (L + 1) + 1)) == some .eq) = false := hsp
              generalize fadd P (at0 (val0 fs s j) (s - (L + 1))) = D9 at hadd hnl
              generalize at0 (val0 fs s j) (s - (L + 1)) = A1 at hr1 hadd
              generalize at0 (val0 fs s j) (s - (L + 1) + 1) = A2 at hr2 hnl
              clear hsp
              have hle1 : ((L + 1 : Nat) : Int) ≤ (s : Int) := by omega
              have hled : decide (L + 1 ≤ s) = true := decide_eq_true hLS
              generalize s - (L + 1) + 1 = z2 at hv2 hlt5 hr2
              generalize s - (L + 1) = z1 at hv1 hv2 hlt4 hr1
              clear hLs hLs'
              generalize L + 1 = L1 at *
              go_wp2_with fail
              go_big_quiet (fail)
              go_wp2_with fail
              go_roundw
              case rel => exact ⟨j + 1, by omega, by omega, by go_num, HBf.out.trans ((below_drewN HBU.out _).mono HBf.out.size)⟩
              case measure => simp [intOf]; omega
            · have hle1 : (s : Int) < ((L + 1 : Nat) : Int) := by omega
              have hled : decide (L + 1 ≤ s) = false := decide_eq_false hLS
              clear hLs hLs' hLS
              generalize L + 1 = L1 at *
              go_wp2_with fail
              go_big_quiet (fail)
              go_wp2_with fail
              go_roundw
              case rel => exact ⟨j + 1, by omega, by omega, by go_num, HBf.out.trans ((below_drewN HBU.out _).mono HBf.out.size)⟩
              case measure => simp [intOf]; omega
      · obtain rfl : j = n := by omega
        go_wp2_with fail
        go_ret
        exact ⟨rfl, HBW.out⟩
end Go.Proofs.Ytnaogcpcaabbhaa
