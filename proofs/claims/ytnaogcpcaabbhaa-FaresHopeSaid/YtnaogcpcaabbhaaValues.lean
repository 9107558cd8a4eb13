/- Values: the program's. -/
import Derived.Test.YtnaogcpcaabbhaaNext
import Derived.Test.YtnaogcpcaabbhaaCheck
namespace Go.Proofs.Ytnaogcpcaabbhaa
open Go.RowKit FloatPlain

def zeros (n : Nat) : List Nat := List.replicate n 0
/-- what seats are worth to the first k classes -/
def val0 (fs : List (Nat × List Nat)) (s k : Nat) : List Nat := worth (fs.take k) (zeros (s + 1))
theorem val0_len (fs : List (Nat × List Nat)) (s k : Nat) : (val0 fs s k).length = s + 1 := by unfold val0; rw [worth_len]; simp [zeros]
theorem val0_next (fs : List (Nat × List Nat)) (s k : Nat) (h : k < fs.length) : val0 fs s (k + 1) = nextV (prA fs k) (csA fs k) (val0 fs s k) := by
  unfold val0
  rw [List.take_succ_eq_append_getElem h, worth_snoc, prA_get h, csA_get h]
theorem val0_all (fs : List (Nat × List Nat)) (s : Nat) : val0 fs s fs.length = worth fs (zeros (s + 1)) := by unfold val0; rw [List.take_length]
theorem val0_bound {fs : List (Nat × List Nat)} (hw : Wf fs) (h : GoodF fs) (s k : Nat) : RowB 240 (val0 fs s k) := by
  have hc := classes_take (good_classes hw h) k
  have hl : (fs.take k).length ≤ 16 := by rw [List.length_take]; have := h.2.1; omega
  have := worth_bound hc (zeros_bound (s + 1)) (Nat.le_refl _) (by omega)
  intro j
  refine Nat.le_trans (this j) (two_le (by omega))
theorem val0_ok {fs : List (Nat × List Nat)} (hw : Wf fs) (h : GoodF fs) (s k : Nat) (hk : k < fs.length) : NextOk (prA fs k) (csA fs k) (val0 fs s k) ∧ Likely (csA fs k) := by
  have hb := val0_bound hw h s k
  have hl := (h.2.2 k hk).2.1
  exact ⟨(next_all hb (by omega) (by omega) (elem_dear hw (fun j hj => h.2.2 j (by omega))) hl).1, hl⟩

set_option maxRecDepth 8000 in
set_option maxHeartbeats 2000000 in
theorem values_any (v : Value) (fs : List (Nat × List Nat)) (s : Nat) (w : World) (hv : Fl w v fs) (hwf : Wf fs) (hg : GoodF fs) (hs : s ≤ 1024) :
    Calls Try.prog 12 #[v, .int .i64 s] w fun e w' => ∃ v', e = .returned (.tuple #[v', .int .i64 0]) ∧ w'.ownsRow w.heap.size 33 1 v' (s + 1) (Fb (val0 fs s fs.length)) ∧ Below w.heap.size w w' := by
  obtain ⟨a, c, rfl, hc, hcm, hnone⟩ := Fl_parts hv
  obtain ⟨n, hn⟩ : ∃ n, fs.length = n := ⟨_, rfl⟩
  obtain ⟨i0, hi, hz0, hz1, hz2⟩ := info_parts info33
  have HI := hid hi
  have HZ := hid hz2
  have HV := hid hv
  have HN := hid hn
  have HWF := hid hwf
  have HG := hid hg
  rw [hn] at hc HV ⊢
  unfold maxLen at hcm
  clear hv hn hwf hg hi hz2
  have hs' : (s : Int) ≤ 1024 := by omega
  have hs0 : (0 : Int) ≤ (s : Int) := by omega
  have hw1 : IntKind.i64.wrap ((s : Int) + 1) = (s : Int) + 1 := by rw [IntKind.wrap_i64]; omega
  have hstf := store_run
  go_enter Try.func12, Try.ntmps12
  go_wp2_with fail
  refine (check_any _ fs _ HV.out HWF.out).mono ?_
  rintro e w1 ⟨rfl, hb⟩
  rw [chk_good HG.out]
  have HB0 := hid hb
  clear hb
  go_wp2_with (at_make; refine wpList_make_full _ rfl _ _ 27 rfl w.heap.size 33 i0 (.float .f64 0) 1 Try.underlying27 HI.out hz0 hz1 .i64 .i64 _ _ (s + 1) rfl rfl (by push_cast; rfl) (by push_cast; rfl) (by rw [HZ.out]; omega) (by unfold maxLen; omega) HB0.out.size ?_; intro w2 hown hgrow)
  have hb1 := HB0.out.grown hgrow HB0.out.size (fun k hk => absurd (show (none : Option Nat) = some k from hk) (by simp))
  rw [zerosF] at hown
  have HO1 := hid (show w2.ownsRow w.heap.size 33 1 _ (s + 1) (Fb (val0 fs s 0)) from hown)
  have HB1 := hid hb1
  clear hb1 hown hgrow
  go_loopw [7, 28] (fun x i wr => ∃ k : Nat, k ≤ n ∧ i = .int .i64 k ∧ wr.ownsRow w.heap.size 33 1 x (s + 1) (Fb (val0 fs s k)) ∧ Below w.heap.size w wr) (fun _ i _ => n - (intOf i).toNat)
  case atStart => exact ⟨0, by omega, rfl, HO1.out, HB1.out⟩
  case round =>
    obtain ⟨k, hk, rfl, hoR, hbR⟩ := hrel
    have HOR := hid hoR
    have HBR := hid hbR
    clear hoR hbR
    by_cases hlt : k < n
    · have hlt' : (k : Int) < (n : Int) := by omega
      obtain ⟨b, off, cv, rfl, hbl, q1, q2, q3⟩ := Fl_cell (k := k) (Fl_below HV.out HBR.out (Nat.le_refl _)) (by rw [HN.out]; exact hlt)
      have HC := hid q3
      obtain ⟨ca, cc, rfl, hcc, hccm, hcn⟩ := Sl_partsF HC.out
      clear q3
      obtain ⟨hok, hlik⟩ := val0_ok HWF.out HG.out s k (by rw [HN.out]; exact hlt)
      have HOK := hid hok
      have HLIK := hid hlik
      have HNX := hid (val0_next fs s k (by rw [HN.out]; exact hlt))
      clear hok hlik
      go_wp2_with fail
      have hcall := next_any _ _ (val0 fs s k) (csA fs k) (prA fs k) _ (Sl_below (B := wr.heap.size) (Sl_of_own HOR.out) ((Below.refl wr.heap.size wr).alloc (Nat.le_refl _) (.cells #[.float .f64 (prA fs k), .slice ca (csA fs k).length cc] 48)) (Nat.le_refl _)) (Sl_below (B := wr.heap.size) HC.out ((Below.refl wr.heap.size wr).alloc (Nat.le_refl _) (.cells #[.float .f64 (prA fs k), .slice ca (csA fs k).length cc] 48)) (Nat.le_refl _)) (by rw [val0_len]; omega) HLIK.out HOK.out
      rw [val0_len, ← HNX.out] at hcall
      refine hcall.mono ?_
      clear hcall
      rintro e w3 ⟨v3, rfl, ho3, hb3⟩
      have HO3 := hid (own_mono (base' := w.heap.size) ho3 (by have := HBR.out.size; simp; omega))
      have HB3 := hid ((HBR.out.alloc HBR.out.size _).trans (hb3.mono (by have := HBR.out.size; simp; omega)))
      clear ho3 hb3
      go_wp2_with fail
      go_roundw
      case rel => exact ⟨k + 1, by omega, by go_num, HO3.out, HB3.out⟩
      case measure => simp [intOf]; omega
    · obtain rfl : k = n := by omega
      go_wp2_with fail
      go_ret2
      exact ⟨_, rfl, HOR.out, HBR.out⟩
  all_goals done

open Classical in
noncomputable def err (fs : List (Nat × List Nat)) (s : Int) : Int := if GoodF fs then (if 0 ≤ s ∧ s ≤ 1024 then 0 else 2) else 260
theorem err_bad {fs : List (Nat × List Nat)} {s : Int} (h : ¬ GoodF fs) : err fs s = 260 := by unfold err; rw [if_neg h]
theorem err_arg {fs : List (Nat × List Nat)} {s : Int} (h : GoodF fs) (hs : ¬ (0 ≤ s ∧ s ≤ 1024)) : err fs s = 2 := by unfold err; rw [if_pos h, if_neg hs]
theorem err_good {fs : List (Nat × List Nat)} {s : Int} (h : GoodF fs) (hs : 0 ≤ s ∧ s ≤ 1024) : err fs s = 0 := by unfold err; rw [if_pos h, if_pos hs]

theorem values_no (v : Value) (fs : List (Nat × List Nat)) (s : Int) (w : World) (hv : Fl w v fs) (hwf : Wf fs) (h : ¬ (GoodF fs ∧ 0 ≤ s ∧ s ≤ 1024)) :
    Calls Try.prog 12 #[v, .int .i64 s] w fun e w' => e = .returned (.tuple #[.slice none 0 0, .int .i64 (err fs s)]) ∧ Below w.heap.size w w' := by
  have HV := hid hv
  have HWF := hid hwf
  have H := hid h
  clear hv hwf h
  by_cases hg : GoodF fs
  · have HG := hid hg
    have H2 := hid (err_arg hg (fun h => H.out ⟨hg, h⟩))
    have hs : ¬ (0 ≤ s ∧ s ≤ 1024) := fun h => H.out ⟨hg, h⟩
    clear hg
    by_cases h0 : s < 0
    · clear hs
      go_enter Try.func12, Try.ntmps12
      go_wp2_with fail
      refine (check_any _ fs _ HV.out HWF.out).mono ?_
      rintro e w1 ⟨rfl, hb⟩
      rw [chk_good HG.out]
      have HB0 := hid hb
      clear hb
      go_wp2_with fail
      go_ret2
      rw [H2.out]
      exact ⟨rfl, HB0.out⟩
    · have h1 : 1024 < s := by omega
      have h0' : 0 ≤ s := by omega
      clear hs h0
      go_enter Try.func12, Try.ntmps12
      go_wp2_with fail
      refine (check_any _ fs _ HV.out HWF.out).mono ?_
      rintro e w1 ⟨rfl, hb⟩
      rw [chk_good HG.out]
      have HB0 := hid hb
      clear hb
      go_wp2_with fail
      go_ret2
      rw [H2.out]
      exact ⟨rfl, HB0.out⟩
  · have HG := hid hg
    have H2 := hid (err_bad (s := s) hg)
    clear hg
    go_enter Try.func12, Try.ntmps12
    go_wp2_with fail
    refine (check_any _ fs _ HV.out HWF.out).mono ?_
    rintro e w1 ⟨rfl, hb⟩
    rw [chk_bad HG.out]
    have HB0 := hid hb
    clear hb
    go_wp2_with fail
    go_ret2
    rw [H2.out]
    exact ⟨rfl, HB0.out⟩
end Go.Proofs.Ytnaogcpcaabbhaa
