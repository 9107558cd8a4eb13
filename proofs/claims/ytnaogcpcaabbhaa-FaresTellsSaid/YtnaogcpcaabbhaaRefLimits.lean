/- The document's Values, Limits, Bid. -/
import Derived.Test.YtnaogcpcaabbhaaRefNext
import Derived.Test.YtnaogcpcaabbhaaAwake
import Derived.Test.YtnaogcpcaabbhaaCopy
namespace Go.Proofs.Ytnaogcpcaabbhaa
open Go.RowKit FloatPlain

theorem wrong_any (v : Value) (fs : List (Nat × List Nat)) (s : Int) (w : World) (hv : Fl w v fs) (hwf : Wf fs) : Calls Try.prog 41 #[v, .int .i64 s] w fun e w' => e = .returned (.int .i64 (err fs s)) ∧ Below w.heap.size w w' := by
  have HV := hid hv
  have HWF := hid hwf
  clear hv hwf
  by_cases hg : GoodF fs
  · have HG := hid (chk_good hg)
    by_cases hs : 0 ≤ s ∧ s ≤ 1024
    · have HE := hid (err_good hg hs)
      obtain ⟨h1, h2⟩ := hs
      clear hg
      go_enter Try.func41, Try.ntmps41
      go_wp2_with fail
      refine (refCheck_any _ fs _ HV.out HWF.out).mono ?_
      rintro e w1 ⟨rfl, hb⟩
      rw [HG.out]
      have HB0 := hid hb
      clear hb
      go_wp2_with fail
      go_ret
      rw [HE.out]
      exact ⟨rfl, HB0.out⟩
    · have HE := hid (err_arg hg hs)
      clear hg
      by_cases h0 : s < 0
      · clear hs
        go_enter Try.func41, Try.ntmps41
        go_wp2_with fail
        refine (refCheck_any _ fs _ HV.out HWF.out).mono ?_
        rintro e w1 ⟨rfl, hb⟩
        rw [HG.out]
        have HB0 := hid hb
        clear hb
        go_wp2_with fail
        go_ret
        rw [HE.out]
        exact ⟨rfl, HB0.out⟩
      · have h1 : 1024 < s := by omega
        have h0' : 0 ≤ s := by omega
        clear hs h0
        go_enter Try.func41, Try.ntmps41
        go_wp2_with fail
        refine (refCheck_any _ fs _ HV.out HWF.out).mono ?_
        rintro e w1 ⟨rfl, hb⟩
        rw [HG.out]
        have HB0 := hid hb
        clear hb
        go_wp2_with fail
        go_ret
        rw [HE.out]
        exact ⟨rfl, HB0.out⟩
  · have HG := hid (chk_bad hg)
    have HE := hid (err_bad (s := s) hg)
    clear hg
    go_enter Try.func41, Try.ntmps41
    go_wp2_with fail
    refine (refCheck_any _ fs _ HV.out HWF.out).mono ?_
    rintro e w1 ⟨rfl, hb⟩
    rw [HG.out]
    have HB0 := hid hb
    clear hb
    go_wp2_with fail
    go_ret
    rw [HE.out]
    exact ⟨rfl, HB0.out⟩

theorem err_ne {fs : List (Nat × List Nat)} {s : Int} (h : ¬ (GoodF fs ∧ 0 ≤ s ∧ s ≤ 1024)) : ¬ err fs s = 0 := by
  unfold err
  split
  · rename_i hg
    rw [if_neg (fun h9 => h ⟨hg, h9⟩)]; decide
  · decide

theorem refValues_no (v : Value) (fs : List (Nat × List Nat)) (s : Int) (w : World) (hv : Fl w v fs) (hwf : Wf fs) (h : ¬ (GoodF fs ∧ 0 ≤ s ∧ s ≤ 1024)) :
    Calls Try.prog 16 #[v, .int .i64 s] w fun e w' => e = .returned (.tuple #[.slice none 0 0, .int .i64 (err fs s)]) ∧ Below w.heap.size w w' := by
  have HV := hid hv
  have HWF := hid hwf
  have hne := err_ne h
  obtain ⟨E, hE⟩ : ∃ E, err fs s = E := ⟨_, rfl⟩
  rw [hE] at hne ⊢
  have HE := hid hE
  clear hv hwf h hE
  go_enter Try.func16, Try.ntmps16
  go_wp2_with fail
  refine (wrong_any _ fs s _ HV.out HWF.out).mono ?_
  rintro e w1 ⟨rfl, hb⟩
  rw [HE.out]
  have HB := hid hb
  clear hb
  go_wp2_with fail
  go_ret2
  exact ⟨rfl, HB.out⟩
theorem refLimits_no (v : Value) (fs : List (Nat × List Nat)) (s : Int) (w : World) (hv : Fl w v fs) (hwf : Wf fs) (h : ¬ (GoodF fs ∧ 0 ≤ s ∧ s ≤ 1024)) :
    Calls Try.prog 17 #[v, .int .i64 s] w fun e w' => e = .returned (.tuple #[.slice none 0 0, .int .i64 (err fs s)]) ∧ Below w.heap.size w w' := by
  have HV := hid hv
  have HWF := hid hwf
  have hne := err_ne h
  obtain ⟨E, hE⟩ : ∃ E, err fs s = E := ⟨_, rfl⟩
  rw [hE] at hne ⊢
  have HE := hid hE
  clear hv hwf h hE
  go_enter Try.func17, Try.ntmps17
  go_wp2_with fail
  refine (wrong_any _ fs s _ HV.out HWF.out).mono ?_
  rintro e w1 ⟨rfl, hb⟩
  rw [HE.out]
  have HB := hid hb
  clear hb
  go_wp2_with fail
  go_ret2
  exact ⟨rfl, HB.out⟩
theorem refBid_no (v : Value) (fs : List (Nat × List Nat)) (s : Int) (w : World) (hv : Fl w v fs) (hwf : Wf fs) (h : ¬ (GoodF fs ∧ 0 ≤ s ∧ s ≤ 1024)) :
    Calls Try.prog 18 #[v, .int .i64 s] w fun e w' => e = .returned (.tuple #[.float .f64 0, .int .i64 (err fs s)]) ∧ Below w.heap.size w w' := by
  have HV := hid hv
  have HWF := hid hwf
  have hne := err_ne h
  have H := hid h
  obtain ⟨E, hE⟩ : ∃ E, err fs s = E := ⟨_, rfl⟩
  rw [hE] at hne ⊢
  have HE := hid hE
  clear hv hwf h hE
  go_enter Try.func18, Try.ntmps18
  go_wp2_with fail
  refine (refValues_no _ fs s _ HV.out HWF.out H.out).mono ?_
  rintro e w1 ⟨rfl, hb⟩
  rw [HE.out]
  have HB := hid hb
  clear hb
  go_wp2_with fail
  go_ret2
  exact ⟨rfl, HB.out⟩

set_option maxRecDepth 8000 in
set_option maxHeartbeats 2000000 in
theorem refValues_any (v : Value) (fs : List (Nat × List Nat)) (s : Nat) (w : World) (hv : Fl w v fs) (hwf : Wf fs) (hg : GoodF fs) (hs : s ≤ 1024) :
    Calls Try.prog 16 #[v, .int .i64 s] w fun e w' => ∃ v', e = .returned (.tuple #[v', .int .i64 0]) ∧ w'.ownsRow w.heap.size 33 1 v' (s + 1) (Fb (val0 fs s fs.length)) ∧ Below w.heap.size w w' := by
  obtain ⟨a, c, rfl, hc, hcm, hnone⟩ := Fl_parts hv
  obtain ⟨n, hn⟩ : ∃ n, fs.length = n := ⟨_, rfl⟩
  obtain ⟨i0, hi, hz0, hz1, hz2⟩ := info_parts info33
  have HI := hid hi
  have HZ := hid hz2
  have HV := hid hv
  have HN := hid hn
  have HWF := hid hwf
  have HG := hid hg
  rw [hn] at hc HV ⊢
  unfold maxLen at hcm
  have HE := hid (err_good (s := (s : Int)) hg (by omega))
  clear hv hn hwf hg hi hz2
  have hw1 : IntKind.i64.wrap ((s : Int) + 1) = (s : Int) + 1 := by rw [IntKind.wrap_i64]; omega
  go_enter Try.func16, Try.ntmps16
  go_wp2_with fail
  refine (wrong_any _ fs s _ HV.out HWF.out).mono ?_
  rintro e w1 ⟨rfl, hb⟩
  rw [HE.out]
  have HB0 := hid hb
  clear hb
  go_wp2_with (at_make; refine wpList_make_full _ rfl _ _ 27 rfl w.heap.size 33 i0 (.float .f64 0) 1 Try.underlying27 HI.out hz0 hz1 .i64 .i64 _ _ (s + 1) rfl rfl (by push_cast; rfl) (by push_cast; rfl) (by rw [HZ.out]; omega) (by unfold maxLen; omega) HB0.out.size ?_; intro w2 hown hgrow)
  have hb1 := HB0.out.grown hgrow HB0.out.size (fun k hk => absurd (show (none : Option Nat) = some k from hk) (by simp))
  rw [zerosF] at hown
  have HO1 := hid (show w2.ownsRow w.heap.size 33 1 _ (s + 1) (Fb (val0 fs s 0)) from hown)
  have HB1 := hid hb1
  clear hb1 hown hgrow
  go_loopw [7, 8] (fun x i wr => ∃ k : Nat, k ≤ n ∧ i = .int .i64 k ∧ wr.ownsRow w.heap.size 33 1 x (s + 1) (Fb (val0 fs s k)) ∧ Below w.heap.size w wr) (fun _ i _ => n - (intOf i).toNat)
  case atStart => exact ⟨0, by omega, rfl, HO1.out, HB1.out⟩
  case round =>
    obtain ⟨k, hk, rfl, hoR, hbR⟩ := hrel
    have HOR := hid hoR
    have HBR := hid hbR
    clear hoR hbR
    by_cases hlt : k < n
    · have hlt' : (k : Int) < (n : Int) := by omega
      obtain ⟨b, off, cv, rfl, hbl, q1, q2, q3⟩ := Fl_cell (k := k) (Fl_below HV.out HBR.out (Nat.le_refl _)) (by rw [HN.out]; exact hlt)
      have HC := hid q3
      obtain ⟨ca, cc, rfl, hcc, hccm, hcn⟩ := Sl_partsF HC.out
      clear q3
      obtain ⟨hok, hlik⟩ := val0_ok HWF.out HG.out s k (by rw [HN.out]; exact hlt)
      have HOK := hid hok
      have HLIK := hid hlik
      have HNX := hid (val0_next fs s k (by rw [HN.out]; exact hlt))
      clear hok hlik
      go_wp2_with fail
      have hcall := refNext_any _ _ (val0 fs s k) (csA fs k) (prA fs k) _ (Sl_of_own HOR.out) HC.out (by rw [val0_len]; omega) HLIK.out HOK.out
      rw [val0_len, ← HNX.out] at hcall
      refine hcall.mono ?_
      clear hcall
      rintro e w3 ⟨v3, rfl, ho3, hb3⟩
      have HO3 := hid (own_mono (base' := w.heap.size) ho3 HBR.out.size)
      have HB3 := hid (HBR.out.trans (hb3.mono HBR.out.size))
      clear ho3 hb3
      go_wp2_with fail
      go_roundw
      case rel => exact ⟨k + 1, by omega, by go_num, HO3.out, HB3.out⟩
      case measure => simp [intOf]; omega
    · obtain rfl : k = n := by omega
      go_wp2_with fail
      go_ret2
      exact ⟨_, rfl, HOR.out, HBR.out⟩

set_option maxRecDepth 8000 in
set_option maxHeartbeats 1000000 in
theorem refBid_any (v : Value) (fs : List (Nat × List Nat)) (s : Nat) (w : World) (hv : Fl w v fs) (hwf : Wf fs) (hg : GoodF fs) (hs : s ≤ 1024) :
    Calls Try.prog 18 #[v, .int .i64 s] w fun e w' => e = .returned (.tuple #[.float .f64 (bidOf fs s), .int .i64 0]) ∧ Below w.heap.size w w' := by
  have HV := hid hv
  have HWF := hid hwf
  have HG := hid hg
  clear hv hwf hg
  by_cases h0 : s = 0
  · subst h0
    go_enter Try.func18, Try.ntmps18
    go_wp2_with fail
    refine (refValues_any _ fs 0 _ HV.out HWF.out HG.out (by omega)).mono ?_
    rintro e w1 ⟨v1, rfl, ho, hb⟩
    have HB := hid hb
    clear ho hb
    go_wp2_with fail
    go_ret2
    exact ⟨rfl, HB.out⟩
  · have hb0 : bidOf fs s = fsub (at0 (val0 fs s fs.length) s) (at0 (val0 fs s fs.length) (s - 1)) := by unfold bidOf; rw [if_neg h0]
    rw [hb0]
    clear hb0
    obtain ⟨D, hD⟩ : ∃ D, fsub (at0 (val0 fs s fs.length) s) (at0 (val0 fs s fs.length) (s - 1)) = D := ⟨_, rfl⟩
    have HD := hid hD
    rw [hD]
    clear hD
    have hs1 : ¬ ((s : Int) = 0) := by omega
    have hw1 : IntKind.i64.wrap ((s : Int) - 1) = ((s - 1 : Nat) : Int) := by rw [IntKind.wrap_i64]; omega
    have hlt1 : (s : Int) < (s : Int) + 1 := by omega
    have hlt2 : ((s - 1 : Nat) : Int) < (s : Int) + 1 := by omega
    go_enter Try.func18, Try.ntmps18
    go_wp2_with fail
    refine (refValues_any _ fs s _ HV.out HWF.out HG.out (by omega)).mono ?_
    rintro e w1 ⟨v1, rfl, ho, hb⟩
    have HB := hid hb
    have HO := hid ho
    obtain ⟨g, cap, rfl, hcap, _⟩ := own_some ho (by omega)
    clear ho hb
    have hq1 := HO.out.cellAt s (by omega)
    rw [Fb_get (by rw [val0_len]; omega)] at hq1
    have hq2 := HO.out.cellAt (s - 1) (by omega)
    rw [Fb_get (by rw [val0_len]; omega)] at hq2
    have hp := (val0_bound HWF.out HG.out s fs.length).pos (by omega)
    have hop := sub_run (sub_some (hp s).fin (hp (s - 1)).fin)
    rw [HD.out] at hop
    generalize at0 (val0 fs s fs.length) s = A at hq1 hop
    generalize at0 (val0 fs s fs.length) (s - 1) = A' at hq2 hop
    clear hp
    go_wp2_with fail
    go_region
    go_wp2_with fail
    go_ret2
    exact ⟨rfl, HB.out.drew⟩

/-- the first k limits -/
def lims0 (fs : List (Nat × List Nat)) (s k : Nat) : List Nat := (List.range k).map (limOf fs s)
theorem lims0_succ (fs : List (Nat × List Nat)) (s k : Nat) : lims0 fs s (k + 1) = lims0 fs s k ++ [limOf fs s k] := by simp [lims0, List.range_succ]
theorem lims0_all (fs : List (Nat × List Nat)) (s : Nat) : lims0 fs s fs.length = lims fs s := rfl
theorem Ib_app (a b : List Nat) : Ib (a ++ b) = Ib a ++ Ib b := by simp [Ib]

set_option maxRecDepth 8000 in
set_option maxHeartbeats 4000000 in
theorem refLimits_any (v : Value) (fs : List (Nat × List Nat)) (s : Nat) (w : World) (hv : Fl w v fs) (hwf : Wf fs) (hg : GoodF fs) (hs : s ≤ 1024) :
    Calls Try.prog 17 #[v, .int .i64 s] w fun e w' => ∃ v', e = .returned (.tuple #[v', .int .i64 0]) ∧ w'.ownsRow w.heap.size 3 1 v' fs.length (Ib (lims fs s)) ∧ Below w.heap.size w w' := by
  obtain ⟨a, c, rfl, hc, hcm, hnone⟩ := Fl_parts hv
  obtain ⟨n, hn⟩ : ∃ n, fs.length = n := ⟨_, rfl⟩
  obtain ⟨i0, hi, hz0, hz1, hz2⟩ := info_parts info33
  obtain ⟨j0, hj, hy0, hy1, hy2⟩ := info_parts info3
  have HI := hid hi
  have HZ := hid hz2
  have HJ := hid hj
  have HY := hid hy2
  have HV := hid hv
  have HN := hid hn
  have HWF := hid hwf
  have HG := hid hg
  have hn16 : n ≤ 16 := by rw [← hn]; exact hg.2.1
  rw [hn] at hc HV ⊢
  unfold maxLen at hcm
  have HE := hid (err_good (s := (s : Int)) hg (by omega))
  clear hv hn hwf hg hi hz2 hj hy2
  have hw1 : IntKind.i64.wrap ((s : Int) + 1) = (s : Int) + 1 := by rw [IntKind.wrap_i64]; omega
  go_enter Try.func17, Try.ntmps17
  go_wp2_with fail
  refine (wrong_any _ fs s _ HV.out HWF.out).mono ?_
  rintro e w1 ⟨rfl, hb⟩
  rw [HE.out]
  have HB0 := hid hb
  clear hb
  go_wp2_with (at_make; refine wpList_make_full _ rfl _ _ 27 rfl w.heap.size 33 i0 (.float .f64 0) 1 Try.underlying27 HI.out hz0 hz1 .i64 .i64 _ _ (s + 1) rfl rfl (by push_cast; rfl) (by push_cast; rfl) (by rw [HZ.out]; omega) (by unfold maxLen; omega) HB0.out.size ?_; intro w2 hown hgrow)
  have hb1 := HB0.out.grown hgrow HB0.out.size (fun k hk => absurd (show (none : Option Nat) = some k from hk) (by simp))
  rw [zerosF] at hown
  have HO1 := hid (show w2.ownsRow w.heap.size 33 1 _ (s + 1) (Fb (val0 fs s 0)) from hown)
  have HB1 := hid hb1
  clear hb1 hown hgrow
  go_loopw [7, 8, 9] (fun o x i wr => ∃ k : Nat, k ≤ n ∧ i = .int .i64 k ∧ wr.ownsRow w.heap.size 33 1 x (s + 1) (Fb (val0 fs s k)) ∧ wr.ownsRow w.heap.size 3 1 o k (Ib (lims0 fs s k)) ∧ (∀ b, x.ownBlock = some b → o.ownBlock ≠ some b) ∧ Below w.heap.size w wr) (fun _ _ i _ => n - (intOf i).toNat)
  case atStart => exact ⟨0, by omega, rfl, HO1.out, World.ownsRow_nil _ _ _ _, (fun b _ h => by cases h), HB1.out⟩
  case round =>
    obtain ⟨k, hk, rfl, hoR, hlR, hne, hbR⟩ := hrel
    have HOR := hid hoR
    have HLR := hid hlR
    have HNE := hid hne
    have HBR := hid hbR
    clear hlR hne hbR
    by_cases hlt : k < n
    · have hlt' : (k : Int) < (n : Int) := by omega
      obtain ⟨b, off, cv, rfl, hbl, q1, q2, q3⟩ := Fl_cell (k := k) HV.out (by rw [HN.out]; exact hlt)
      have HC := hid q3
      have HBL := hid hbl
      have HQ1 := hid q1
      have HQ2 := hid q2
      obtain ⟨ca, cc, rfl, hcc, hccm, hcn⟩ := Sl_partsF HC.out
      clear q3 q1 q2
      obtain ⟨hok, hlik⟩ := val0_ok HWF.out HG.out s k (by rw [HN.out]; exact hlt)
      have HOK := hid hok
      have HLIK := hid hlik
      have HNX := hid (val0_next fs s k (by rw [HN.out]; exact hlt))
      obtain ⟨gv, cvv, rfl, hcv, _⟩ := own_some hoR (by omega)
      clear hok hlik hoR
      go_wp2_with fail
      go_loopw [10] (fun u wi => ∃ c : Nat, c ≤ s ∧ u = .int .i64 c ∧ c + limGo (prA fs k) (val0 fs s k) (s - c) = limOf fs s k ∧ Below wr.heap.size wr wi) (fun u _ => s - (intOf u).toNat)
      case atStart => exact ⟨0, by omega, rfl, by rw [Nat.zero_add, Nat.sub_zero]; rfl, Below.refl _ _⟩
      case round =>
        obtain ⟨c1, hc1, rfl, hcn1, hbI⟩ := hrel
        have HBI := hid hbI
        have HCN := hid hcn1
        clear hbI hcn1
        by_cases hcs : c1 < s
        · obtain ⟨l, hl⟩ : ∃ l, s - c1 = l + 1 := ⟨s - c1 - 1, by omega⟩
          have HL0 := hid hl
          have hcs' : (c1 : Int) < (s : Int) := by omega
          have hcd : decide (c1 < s) = true := decide_eq_true hcs
          have hv1 : IntKind.i64.wrap ((s : Int) - (c1 : Int)) = ((l + 1 : Nat) : Int) := by rw [IntKind.wrap_i64]; omega
          have hv2 : IntKind.i64.wrap (((l + 1 : Nat) : Int) - 1) = (l : Int) := by rw [IntKind.wrap_i64]; omega
          have hlt4 : ((l + 1 : Nat) : Int) < (s : Int) + 1 := by omega
          have hlt5 : (l : Int) < (s : Int) + 1 := by omega
          have HBW := hid (HBR.out.trans (HBI.out.mono HBR.out.size))
          have hxr := own_below HOR.out HBI.out (Nat.le_refl _)
          have e1 : wr.cell? ⟨b, off + k * 2, none⟩ = some (.float .f64 (prA fs k)) := by rw [HBW.out.cell (p := ⟨b, off + k * 2, none⟩) HBL.out]; exact HQ1.out
          have r1 := hxr.cellAt (l + 1) (by omega)
          rw [Fb_get (by rw [val0_len]; omega)] at r1
          have r2 := hxr.cellAt l (by omega)
          rw [Fb_get (by rw [val0_len]; omega)] at r2
          have ha := add_run (ahead_some HWF.out HG.out s k l (by rw [HN.out]; exact hlt)).1
          obtain ⟨P, hP⟩ : ∃ P, prA fs k = P := ⟨_, rfl⟩
          obtain ⟨D, hD⟩ : ∃ D, fadd P (at0 (val0 fs s k) l) = D := ⟨_, rfl⟩
          obtain ⟨ge, hge⟩ : ∃ ge, (FloatKind.f64.format.order D (at0 (val0 fs s k) (l + 1)) == some .gt || FloatKind.f64.format.order D (at0 (val0 fs s k) (l + 1)) == some .eq) = ge := ⟨_, rfl⟩
          have hgeb : geB (fadd (prA fs k) (at0 (val0 fs s k) l)) (at0 (val0 fs s k) (l + 1)) = ge := by rw [hP, hD]; exact hge
          have HGE := hid hgeb
          rw [hP, hD] at ha
          rw [hP] at e1
          clear hgeb hD hP hl hxr
          generalize at0 (val0 fs s k) (l + 1) = A at r1 hge
          generalize at0 (val0 fs s k) l = A' at r2 ha
          have hwc : IntKind.i64.wrap ((c1 : Int) + 1) = (c1 : Int) + 1 := by rw [IntKind.wrap_i64]; omega
          cases ge with
          | true =>
            generalize l + 1 = l1 at hv1 hv2 hlt4 r1
            go_wp2_with fail
            go_big_quiet (fail)
            go_wp2_with fail
            go_roundw
            case rel =>
              refine ⟨c1 + 1, by omega, by go_num, ?_, below_drewN HBI.out _⟩
              have h1 := HCN.out
              rw [HL0.out, limGo_yes HGE.out] at h1
              rw [show s - (c1 + 1) = l from by have := HL0.out; omega]
              omega
            case measure => simp [intOf]; omega
          | false =>
            have hcl : c1 = limOf fs s k := by
              have h1 := HCN.out
              rw [HL0.out, limGo_no HGE.out] at h1
              omega
            generalize l + 1 = l1 at hv1 hv2 hlt4 r1
            have HFS := hid (lims0_succ fs s k)
            rw [← hcl] at HFS
            have hl5 := own_below HLR.out HBI.out (Nat.le_refl _)
            have hx5 := own_below HOR.out HBI.out (Nat.le_refl _)
            have HL5 := hid hl5
            have HX5 := hid hx5
            have HB5 := hid (HBR.out.trans (HBI.out.mono HBR.out.size))
            clear hl5 hx5 hcl
            go_wp2_with fail
            go_big_quiet (fail)
            have hb6 := below_drewN HB5.out nq
            have hl6 := own_below HL5.out (below_drewN (Below.refl wr.heap.size wr) nq) (Nat.le_refl _)
            have hx6 := own_below HX5.out (below_drewN (Below.refl wr.heap.size wr) nq) (Nat.le_refl _)
            obtain ⟨w6, hw6⟩ : ∃ w6, wr.drewN nq = w6 := ⟨_, rfl⟩
            rw [hw6] at hb6 hl6 hx6 ⊢
            have HB6 := hid hb6
            have HL6 := hid hl6
            have HX6 := hid hx6
            clear hb6 hl6 hx6 hw6
            go_wp2_with (at_builtin; refine wpList_append_own_at _ rfl _ _ 30 rfl w.heap.size 3 j0 (.int .i64 0) 1 8 Try.underlying30 HJ.out hy0 hy1 HY.out rfl (by decide) _ k (Ib (lims0 fs s k)) rfl (HL6.out.alloc _) ⟨w6.heap.size, 0, none⟩ 1 1 [.int .i64 (c1 : Int)] rfl rfl (cell_one_new _ _ _) (by intro u hu; rw [List.mem_singleton] at hu; subst hu; rfl) (by unfold maxLen; omega) (by omega) (by have := HB6.out.size; simp; omega) ?_; intro v4 w4 hown hgrow _ hat
                         have hb7 := (HB6.out.alloc HB6.out.size (.cells #[.int .i64 (c1 : Int)] 3)).grown hgrow (by have := HB6.out.size; simp; omega) (fun q hq => (HL6.out.lt q hq).1)
                         have e1 : w4.cell? ⟨b, off + k * 2, none⟩ = some (.float .f64 (prA fs k)) := by rw [hb7.cell (p := ⟨b, off + k * 2, none⟩) HBL.out]; exact HQ1.out
                         have e2 : w4.cell? ⟨b, off + k * 2 + 1, none⟩ = some (.slice ca (csA fs k).length cc) := by rw [hb7.cell (p := ⟨b, off + k * 2 + 1, none⟩) HBL.out]; exact HQ2.out)
            have HB7 := hid hb7
            have HL7 := hid (show w4.ownsRow w.heap.size 3 1 v4 (k + 1) (Ib (lims0 fs s (k + 1))) by rw [HFS.out, Ib_app]; exact hown)
            have hx7 := Sl_grown (Sl_alloc (Sl_of_own HX6.out) (.cells #[.int .i64 (c1 : Int)] 3)) hgrow (fun b hb => HNE.out b hb)
            have HX7 := hid hx7
            clear hb7 hown hgrow hat hx7
            have hcall := refNext_any _ _ (val0 fs s k) (csA fs k) (prA fs k) _ HX7.out (Sl_below HC.out HB7.out (Nat.le_refl _)) (by rw [val0_len]; omega) HLIK.out HOK.out
            rw [val0_len, ← HNX.out] at hcall
            refine hcall.mono ?_
            clear hcall
            rintro e w8 ⟨v8, rfl, ho8, hb8⟩
            have HNE8 := hid (show ∀ b, v8.ownBlock = some b → v4.ownBlock ≠ some b from fun b hb h4 => by
              have h5 := (ho8.lt b hb).1
              have h6 := (HL7.out.lt b h4).2
              omega)
            have HO8 := hid (own_mono (base' := w.heap.size) ho8 HB7.out.size)
            have HL8 := hid (own_below HL7.out hb8 (Nat.le_refl _))
            have HB8 := hid (HB7.out.trans (hb8.mono HB7.out.size))
            clear ho8 hb8
            go_wp2_with fail
            go_roundw
            case rel => exact ⟨k + 1, by omega, by go_num, HO8.out, HL8.out, HNE8.out, HB8.out⟩
            case measure => simp [intOf]; omega
        · have hcs' : ¬ (c1 : Int) < (s : Int) := by omega
          have hcd : decide (c1 < s) = false := decide_eq_false hcs
          have hcl : c1 = limOf fs s k := by
            have h1 := HCN.out
            rw [show s - c1 = 0 from by omega] at h1
            exact h1
          have HFS := hid (lims0_succ fs s k)
          rw [← hcl] at HFS
          have hl5 := own_below HLR.out HBI.out (Nat.le_refl _)
          have hx5 := own_below HOR.out HBI.out (Nat.le_refl _)
          have HL5 := hid hl5
          have HX5 := hid hx5
          have HB5 := hid (HBR.out.trans (HBI.out.mono HBR.out.size))
          clear hl5 hx5 hcl
          go_wp2_with fail
          go_big_quiet (fail)
          have hb6 := below_drewN HB5.out nq
          have hl6 := own_below HL5.out (below_drewN (Below.refl wr.heap.size wr) nq) (Nat.le_refl _)
          have hx6 := own_below HX5.out (below_drewN (Below.refl wr.heap.size wr) nq) (Nat.le_refl _)
          obtain ⟨w6, hw6⟩ : ∃ w6, wr.drewN nq = w6 := ⟨_, rfl⟩
          rw [hw6] at hb6 hl6 hx6 ⊢
          have HB6 := hid hb6
          have HL6 := hid hl6
          have HX6 := hid hx6
          clear hb6 hl6 hx6 hw6
          go_wp2_with (at_builtin; refine wpList_append_own_at _ rfl _ _ 30 rfl w.heap.size 3 j0 (.int .i64 0) 1 8 Try.underlying30 HJ.out hy0 hy1 HY.out rfl (by decide) _ k (Ib (lims0 fs s k)) rfl (HL6.out.alloc _) ⟨w6.heap.size, 0, none⟩ 1 1 [.int .i64 (c1 : Int)] rfl rfl (cell_one_new _ _ _) (by intro u hu; rw [List.mem_singleton] at hu; subst hu; rfl) (by unfold maxLen; omega) (by omega) (by have := HB6.out.size; simp; omega) ?_; intro v4 w4 hown hgrow _ hat
                       have hb7 := (HB6.out.alloc HB6.out.size (.cells #[.int .i64 (c1 : Int)] 3)).grown hgrow (by have := HB6.out.size; simp; omega) (fun q hq => (HL6.out.lt q hq).1)
                       have e1 : w4.cell? ⟨b, off + k * 2, none⟩ = some (.float .f64 (prA fs k)) := by rw [hb7.cell (p := ⟨b, off + k * 2, none⟩) HBL.out]; exact HQ1.out
                       have e2 : w4.cell? ⟨b, off + k * 2 + 1, none⟩ = some (.slice ca (csA fs k).length cc) := by rw [hb7.cell (p := ⟨b, off + k * 2 + 1, none⟩) HBL.out]; exact HQ2.out)
          have HB7 := hid hb7
          have HL7 := hid (show w4.ownsRow w.heap.size 3 1 v4 (k + 1) (Ib (lims0 fs s (k + 1))) by rw [HFS.out, Ib_app]; exact hown)
          have hx7 := Sl_grown (Sl_alloc (Sl_of_own HX6.out) (.cells #[.int .i64 (c1 : Int)] 3)) hgrow (fun b hb => HNE.out b hb)
          have HX7 := hid hx7
          clear hb7 hown hgrow hat hx7
          have hcall := refNext_any _ _ (val0 fs s k) (csA fs k) (prA fs k) _ HX7.out (Sl_below HC.out HB7.out (Nat.le_refl _)) (by rw [val0_len]; omega) HLIK.out HOK.out
          rw [val0_len, ← HNX.out] at hcall
          refine hcall.mono ?_
          clear hcall
          rintro e w8 ⟨v8, rfl, ho8, hb8⟩
          have HNE8 := hid (show ∀ b, v8.ownBlock = some b → v4.ownBlock ≠ some b from fun b hb h4 => by
            have h5 := (ho8.lt b hb).1
            have h6 := (HL7.out.lt b h4).2
            omega)
          have HO8 := hid (own_mono (base' := w.heap.size) ho8 HB7.out.size)
          have HL8 := hid (own_below HL7.out hb8 (Nat.le_refl _))
          have HB8 := hid (HB7.out.trans (hb8.mono HB7.out.size))
          clear ho8 hb8
          go_wp2_with fail
          go_roundw
          case rel => exact ⟨k + 1, by omega, by go_num, HO8.out, HL8.out, HNE8.out, HB8.out⟩
          case measure => simp [intOf]; omega
    · obtain rfl : k = n := by omega
      have hfin := HLR.out
      rw [← HN.out, lims0_all, HN.out] at hfin
      have HFIN := hid hfin
      clear hfin hoR
      go_wp2_with fail
      go_ret2
      exact ⟨_, rfl, HFIN.out, HBR.out⟩
end Go.Proofs.Ytnaogcpcaabbhaa
