/- Sums behind a place; the document's rows; Shows, Above. -/
import Derived.Test.YtkabnaemchgeeaaGrown
namespace Go.Proofs.Ytkabnaemchgeeaa
open Go.RowKit FloatPlain

theorem addr_add (b off j : Nat) : (⟨b, off, none⟩ : Addr).add j = ⟨b, off + j, none⟩ := by
  unfold Addr.add; split <;> simp_all

theorem Sl_partsF {w : World} {v : Value} {l : List Nat} (h : Sl w v (Fb l)) : ∃ a c, v = .slice a l.length c ∧ l.length ≤ c ∧ c ≤ maxLen ∧ (a = none → l.length = 0 ∧ c = 0) := by
  obtain ⟨a, c, rfl, hc, hcm, h1⟩ := h
  rw [Fb_len] at hc ⊢
  refine ⟨a, c, rfl, hc, hcm, ?_⟩
  rintro rfl
  rcases h1 with ⟨h0, rfl⟩ | ⟨b, off, h9, _⟩
  · exact ⟨by omega, rfl⟩
  · cases h9

theorem Sl_cellF {w : World} {a : Option Addr} {n c k : Nat} {l : List Nat} (h : Sl w (.slice a n c) (Fb l)) (hk : k < l.length) :
    ∃ b off, a = some ⟨b, off, none⟩ ∧ b < w.heap.size ∧ w.cell? ⟨b, off + k, none⟩ = some (.float .f64 (at0 l k)) := by
  obtain ⟨a', c', e, _, _, h9⟩ := h
  injection e with e1 e2 e3
  subst e1
  rcases h9 with ⟨h9, _⟩ | ⟨b, off, rfl, hb, hcell⟩
  · have := Fb_len l
    rw [h9] at this
    simp at this
    omega
  · exact ⟨b, off, rfl, hb, hcell k _ (Fb_get hk)⟩

set_option maxHeartbeats 1000000 in
theorem behind_any (v : Value) (q : List Nat) (s : Int) (w : World) (hv : Sl w v (Fb q)) (h1 : q.length ≤ 10000) (hok : SumOkay q q.length (steps q.length s)) :
    Calls Try.prog 30 #[v, .int .i64 s] w fun e w' => e = .returned (.float .f64 (bsum q q.length (steps q.length s))) ∧ w = w' := by
  obtain ⟨a, c, rfl, hc, hcm, _⟩ := Sl_partsF hv
  obtain ⟨n, hn⟩ : ∃ n, q.length = n := ⟨_, rfl⟩
  have HV := hid hv
  have HN := hid hn
  rw [hn] at hc h1 hok HV ⊢
  obtain ⟨m, hm⟩ : ∃ m, steps n s = m := ⟨_, rfl⟩
  have hmn : m ≤ n := by rw [← hm]; exact Nat.min_le_left _ _
  have HM := hid hm
  rw [hm] at hok ⊢
  have HOK := hid hok
  clear hv hn hm hok
  unfold maxLen at hcm
  go_enter Try.func30, Try.ntmps30
  go_wp2_with fail
  go_loop [5, 6] (fun x i => ∃ j : Nat, j ≤ m ∧ i = .int .i64 ((n : Int) - 1 - j) ∧ x = .float .f64 (bsum q n j)) (fun _ i => (intOf i + 1).toNat)
  case atStart => exact ⟨0, by omega, by go_num, rfl⟩
  case round =>
    obtain ⟨j, hj, rfl, rfl⟩ := hrel
    have hst : m = min n ((n : Int) - 1 - s).toNat := HM.out.symm
    by_cases hlt : j < m
    · obtain ⟨i, hi⟩ : ∃ i, n - 1 - j = i := ⟨_, rfl⟩
      have hz : (n : Int) - 1 - j = (i : Int) := by omega
      have hs : s < (i : Int) := by omega
      have hi0 : (0 : Int) ≤ (i : Int) := by omega
      have hi1 : (i : Int) < (n : Int) := by omega
      have hw1 : IntKind.i64.wrap ((i : Int) - 1) = (i : Int) - 1 := by rw [IntKind.wrap_i64]; omega
      have ha := add_run (HOK.out j hlt)
      rw [hi] at ha
      obtain ⟨b, o, rfl, _, hcell⟩ := Sl_cellF (k := i) HV.out (by rw [HN.out]; omega)
      have HX := hid (show bsum q n (j + 1) = bsum q n (j + 1) from rfl)
      obtain ⟨S', hS'⟩ : ∃ S, bsum q n (j + 1) = S := ⟨_, rfl⟩
      rw [hS'] at ha
      have HS' := hid hS'
      generalize bsum q n j = S at ha
      generalize at0 q i = A at ha hcell
      rw [hz]
      have HZ := hid hz
      clear hz hst hS' HX
      go_wp2_with fail
      go_round
      case rel => exact ⟨j + 1, by omega, by have := HZ.out; go_num, by rw [HS'.out]⟩
      case measure => simp [intOf] <;> omega
    · obtain rfl : j = m := by omega
      by_cases hneg : (n : Int) - 1 - j < 0
      · have hd : decide ((0 : Int) ≤ (n : Int) - 1 - j) = false := by simp; omega
        clear hst
        generalize (n : Int) - 1 - j = z at hneg hd
        go_wp2_with fail
        go_ret
        exact ⟨rfl, rfl⟩
      · have hns : (n : Int) - 1 - j ≤ s := by omega
        have hnn : (0 : Int) ≤ (n : Int) - 1 - j := by omega
        clear hst
        generalize (n : Int) - 1 - j = z at hneg hns hnn
        go_wp2_with fail
        go_ret
        exact ⟨rfl, rfl⟩

set_option maxHeartbeats 1000000 in
theorem refBehind_any (v : Value) (q : List Nat) (s : Int) (w : World) (hv : Sl w v (Fb q)) (h1 : q.length ≤ 10000) (hok : SumOkay q q.length (steps q.length s)) :
    Calls Try.prog 33 #[v, .int .i64 s] w fun e w' => e = .returned (.float .f64 (bsum q q.length (steps q.length s))) ∧ w = w' := by
  obtain ⟨a, c, rfl, hc, hcm, _⟩ := Sl_partsF hv
  obtain ⟨n, hn⟩ : ∃ n, q.length = n := ⟨_, rfl⟩
  have HV := hid hv
  have HN := hid hn
  rw [hn] at hc h1 hok HV ⊢
  obtain ⟨m, hm⟩ : ∃ m, steps n s = m := ⟨_, rfl⟩
  have hmn : m ≤ n := by rw [← hm]; exact Nat.min_le_left _ _
  have HM := hid hm
  rw [hm] at hok ⊢
  have HOK := hid hok
  clear hv hn hm hok
  unfold maxLen at hcm
  go_enter Try.func33, Try.ntmps33
  go_wp2_with fail
  go_loop [5, 6] (fun x i => ∃ j : Nat, j ≤ m ∧ i = .int .i64 ((n : Int) - 1 - j) ∧ x = .float .f64 (bsum q n j)) (fun _ i => (intOf i + 1).toNat)
  case atStart => exact ⟨0, by omega, by go_num, rfl⟩
  case round =>
    obtain ⟨j, hj, rfl, rfl⟩ := hrel
    have hst : m = min n ((n : Int) - 1 - s).toNat := HM.out.symm
    by_cases hlt : j < m
    · obtain ⟨i, hi⟩ : ∃ i, n - 1 - j = i := ⟨_, rfl⟩
      have hz : (n : Int) - 1 - j = (i : Int) := by omega
      have hs : s < (i : Int) := by omega
      have hi0 : (0 : Int) ≤ (i : Int) := by omega
      have hi1 : (i : Int) < (n : Int) := by omega
      have hw1 : IntKind.i64.wrap ((i : Int) - 1) = (i : Int) - 1 := by rw [IntKind.wrap_i64]; omega
      have ha := add_run (HOK.out j hlt)
      rw [hi] at ha
      obtain ⟨b, o, rfl, _, hcell⟩ := Sl_cellF (k := i) HV.out (by rw [HN.out]; omega)
      have HX := hid (show bsum q n (j + 1) = bsum q n (j + 1) from rfl)
      obtain ⟨S', hS'⟩ : ∃ S, bsum q n (j + 1) = S := ⟨_, rfl⟩
      rw [hS'] at ha
      have HS' := hid hS'
      generalize bsum q n j = S at ha
      generalize at0 q i = A at ha hcell
      rw [hz]
      have HZ := hid hz
      clear hz hst hS' HX
      go_wp2_with fail
      go_round
      case rel => exact ⟨j + 1, by omega, by have := HZ.out; go_num, by rw [HS'.out]⟩
      case measure => simp [intOf] <;> omega
    · obtain rfl : j = m := by omega
      by_cases hneg : (n : Int) - 1 - j < 0
      · have hd : decide ((0 : Int) ≤ (n : Int) - 1 - j) = false := by simp; omega
        clear hst
        generalize (n : Int) - 1 - j = z at hneg hd
        go_wp2_with fail
        go_ret
        exact ⟨rfl, rfl⟩
      · have hns : (n : Int) - 1 - j ≤ s := by omega
        have hnn : (0 : Int) ≤ (n : Int) - 1 - j := by omega
        clear hst
        generalize (n : Int) - 1 - j = z at hneg hns hnn
        go_wp2_with fail
        go_ret
        exact ⟨rfl, rfl⟩

/-- the float at a place that may be none -/
def atI (q : List Nat) (z : Int) : Nat := if z < 0 then 0 else at0 q z.toNat

theorem at_any (v : Value) (q : List Nat) (z : Int) (w : World) (hv : Sl w v (Fb q)) : Calls Try.prog 41 #[v, .int .i64 z] w fun e w' => e = .returned (.float .f64 (atI q z)) ∧ w = w' := by
  obtain ⟨a, c, rfl, hc, hcm, _⟩ := Sl_partsF hv
  unfold maxLen at hcm
  by_cases h0 : z < 0
  · have e : atI q z = 0 := by unfold atI; rw [if_pos h0]
    rw [e]
    clear e hv
    go_enter Try.func41, Try.ntmps41
    go_wp2_with fail
    go_ret
    exact ⟨rfl, rfl⟩
  · obtain ⟨k, rfl⟩ := Int.eq_ofNat_of_zero_le (show 0 ≤ z by omega)
    by_cases h1 : k < q.length
    · obtain ⟨b, o, rfl, _, hcell⟩ := Sl_cellF hv h1
      have e : atI q (k : Int) = at0 q k := by unfold atI; rw [if_neg h0, Int.toNat_natCast]
      rw [e]
      generalize at0 q k = A at hcell ⊢
      have hlt : (k : Int) < (q.length : Int) := by omega
      clear e hv
      go_enter Try.func41, Try.ntmps41
      go_wp2_with fail
      go_ret
      exact ⟨rfl, rfl⟩
    · have e : atI q (k : Int) = 0 := by unfold atI; rw [if_neg h0, Int.toNat_natCast, at0_ge (by omega)]
      rw [e]
      have hge : (q.length : Int) ≤ (k : Int) := by omega
      clear e hv
      go_enter Try.func41, Try.ntmps41
      go_wp2_with fail
      go_ret
      exact ⟨rfl, rfl⟩

/-- the document's cell is the program's -/
theorem refCell {q : List Nat} {p r : Nat} (h : Okay q p r) (k : Nat) : Ieee.double.mul (atI q k) r = some (fmul (at0 q k) r) ∧ Ieee.double.mul (atI q ((k : Int) - 1)) p = some (fmul (atI q ((k : Int) - 1)) p) ∧
    Ieee.double.add (fmul (at0 q k) r) (fmul (atI q ((k : Int) - 1)) p) = some (cell q p r k) := by
  have e : atI q (k : Int) = at0 q k := by unfold atI; rw [if_neg (by omega), Int.toNat_natCast]
  refine ⟨by rw [e]; exact h.mr k, ?_⟩
  cases k with
  | zero =>
    have e0 : atI q (((0 : Nat) : Int) - 1) = 0 := by unfold atI; rw [if_pos (by omega)]
    rw [e0]
    exact ⟨h.fz, h.fa⟩
  | succ j =>
    have e0 : atI q (((j + 1 : Nat) : Int) - 1) = at0 q j := by unfold atI; rw [if_neg (by omega)]; congr 1; omega
    rw [e0]
    exact ⟨h.mp j, h.ad j⟩

/-- the first cells of the next row -/
def firstRow (q : List Nat) (p r k : Nat) : List Nat := (List.range k).map (cell q p r)
theorem firstRow_succ (q : List Nat) (p r k : Nat) : firstRow q p r (k + 1) = firstRow q p r k ++ [cell q p r k] := by simp [firstRow, List.range_succ]

set_option maxRecDepth 8000 in
set_option maxHeartbeats 1000000 in
theorem next_any (v : Value) (q : List Nat) (p : Nat) (w : World) (hv : Sl w v (Fb q)) (h1 : q.length ≤ 10000) (hok : Okay q p (fsub one p)) (hr : Ieee.double.sub one p = some (fsub one p)) :
    Calls Try.prog 32 #[v, .float .f64 p] w fun e w' => ∃ v', e = .returned v' ∧ w'.ownsRow w.heap.size 22 1 v' (q.length + 1) (Fb (nextRow q p (fsub one p))) ∧ Below w.heap.size w w' := by
  obtain ⟨a, c, rfl, hc, hcm, _⟩ := Sl_partsF hv
  obtain ⟨i0, hi, hz0, hz1, hz2⟩ := info_parts info22
  have HI := hid hi
  have HZ := hid hz2
  clear hi hz2
  obtain ⟨r, hrr⟩ : ∃ r, fsub one p = r := ⟨_, rfl⟩
  rw [hrr] at hok hr ⊢
  have hsub := sub_run hr
  unfold one at hsub
  obtain ⟨n, hn⟩ : ∃ n, q.length = n := ⟨_, rfl⟩
  have HN := hid hn
  have HV := hid hv
  rw [hn] at HV h1 hc ⊢
  have HOK := hid hok
  clear hr hrr hn hok hv
  unfold maxLen at hcm
  go_enter Try.func32, Try.ntmps32
  go_wp2_with (at_make; refine wpList_make_own _ rfl _ _ 29 rfl w.heap.size 22 i0 (.float .f64 0) 1 Try.underlying29 HI.out hz0 hz1 .i64 .i64 _ (n + 1) rfl rfl (by push_cast; rfl) (by rw [HZ.out]; omega) (by unfold maxLen; omega) (Nat.le_refl _) ?_; intro w1 hown hgrow)
  have hb1 := (Below.refl w.heap.size w).grown hgrow (Nat.le_refl _) (fun k hk => absurd (show (none : Option Nat) = some k from hk) (by simp))
  have HB1 := hid hb1
  have HO1 := hid hown
  clear hb1 hown hgrow
  go_loopw [6, 7] (fun s i wr => ∃ k : Nat, k ≤ n + 1 ∧ i = .int .i64 k ∧ s = .slice (some ⟨w.heap.size, 0, none⟩) k (n + 1) ∧ wr.ownsRow w.heap.size 22 1 (.slice (some ⟨w.heap.size, 0, none⟩) k (n + 1)) k (Fb (firstRow q p r k)) ∧ Below w.heap.size w wr) (fun _ i _ => n + 1 - (intOf i).toNat)
  case atStart => exact ⟨0, by omega, rfl, rfl, HO1.out, HB1.out⟩
  case round =>
    obtain ⟨k, hk, rfl, rfl, hoR, hbR⟩ := hrel
    have HOR := hid hoR
    have HBR := hid hbR
    clear hoR hbR
    by_cases hlt : k < n + 1
    · have hle : (k : Int) ≤ (n : Int) := by omega
      obtain ⟨c1, c2, c3⟩ := refCell HOK.out k
      have hm1 := mul_run c1
      have hm2 := mul_run c2
      have ha := add_run c3
      have hw1 : IntKind.i64.wrap ((k : Int) - 1) = (k : Int) - 1 := by rw [IntKind.wrap_i64]; omega
      have HFS := hid (firstRow_succ q p r k)
      have HVR := hid (Sl_below HV.out HBR.out (Nat.le_refl _))
      generalize fmul (at0 q k) r = M1 at hm1 ha
      generalize fmul (atI q ((k : Int) - 1)) p = M2 at hm2 ha
      obtain ⟨S, hS⟩ : ∃ S, cell q p r k = S := ⟨_, rfl⟩
      rw [hS] at ha
      have HS := hid hS
      obtain ⟨A1, hA1⟩ : ∃ A, atI q (k : Int) = A := ⟨_, rfl⟩
      obtain ⟨A2, hA2⟩ : ∃ A, atI q ((k : Int) - 1) = A := ⟨_, rfl⟩
      rw [hA1] at hm1
      rw [hA2] at hm2
      have HA1 := hid hA1
      have HA2 := hid hA2
      clear c1 c2 c3 hS hA1 hA2
      go_wp2_with fail
      refine (at_any _ q k _ HVR.out).mono ?_
      rintro e w5 ⟨rfl, hw⟩
      obtain rfl := hw
      rw [HA1.out]
      go_wp2_with fail
      refine (at_any _ q ((k : Int) - 1) _ HVR.out).mono ?_
      rintro e w5 ⟨rfl, hw⟩
      obtain rfl := hw
      rw [HA2.out]
      go_wp2_with (at_builtin; refine wpList_append_fits _ rfl _ _ 29 rfl w.heap.size 22 i0 1 Try.underlying29 HI.out hz1 w.heap.size k (n + 1) (Fb (firstRow q p r k)) rfl (HOR.out.alloc _) ⟨wr.heap.size, 0, none⟩ 1 1 [.float .f64 S] rfl rfl (cell_one_new _ _ _) (by intro u hu; rw [List.mem_singleton] at hu; subst hu; rfl) (by omega) ?_; intro w4 hown hgrow)
      go_roundw
      case rel =>
        refine ⟨k + 1, by omega, by go_num, rfl, ?_, ?_⟩
        · rw [HFS.out, HS.out]
          simpa [Fb] using hown
        · exact (HBR.out.alloc HBR.out.size _).grown hgrow (by have := HBR.out.size; simp; omega) (fun k hk => by cases hk; exact Nat.le_refl _)
      case measure => simp [intOf]; omega
    · obtain rfl : k = n + 1 := by omega
      go_wp2_with fail
      go_ret
      refine ⟨_, rfl, ?_, HBR.out⟩
      have h9 := HOR.out
      have e9 : firstRow q p r (n + 1) = nextRow q p r := by
        unfold firstRow nextRow
        rw [HN.out]
      rw [e9] at h9
      exact h9
end Go.Proofs.Ytkabnaemchgeeaa
