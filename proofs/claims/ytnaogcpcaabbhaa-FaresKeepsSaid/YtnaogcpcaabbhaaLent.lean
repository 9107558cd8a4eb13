/- Fares that are lent: rows with marks behind; the same floats, the same fares. -/
import Derived.Test.YtnaogcpcaabbhaaCopy
import Derived.Test.YtnaogcpcaabbhaaUnits
import Derived.Deep.QuietTactic
import Derived.BigQuiet
namespace Go.Proofs.Ytnaogcpcaabbhaa
open Go.RowKit FloatPlain

theorem i64_in (n : Int) (h : -9223372036854775808 ≤ n ∧ n ≤ 9223372036854775807) : IntKind.i64.wrap n = n := by rw [IntKind.wrap_i64]; omega

/-- the mark of a place, as a number and as a float -/
def mk (k i : Nat) : Nat := 1000003 * (k + 7) + i
def mb (k i : Nat) : Nat := intW ((mk k i : Nat) : Int)

theorem mark_any (k i : Nat) (hk : k ≤ 1000) (hi : i ≤ 281474976710656) (w : World) : Calls Try.prog 51 #[.int .i64 k, .int .i64 i] w fun e w' => e = .returned (.int .i64 ((mk k i : Nat) : Int)) ∧ w = w' := by
  have e1 : IntKind.i64.wrap ((k : Int) + 7) = (k : Int) + 7 := i64_in _ (by omega)
  have e2 : IntKind.i64.wrap (1000003 * ((k : Int) + 7)) = 1000003 * ((k : Int) + 7) := i64_in _ (by omega)
  have e3 : IntKind.i64.wrap (1000003 * ((k : Int) + 7) + i) = ((mk k i : Nat) : Int) := by unfold mk; rw [i64_in _ (by omega)]; omega
  go_enter Try.func51, Try.ntmps51
  go_wp2
  go_ret
  refine ⟨congrArg Ending.returned (congrArg (Value.int .i64) ?_), rfl⟩
  unfold mk
  omega

theorem mark_facts (k i : Nat) (hk : k ≤ 1000) (hi : i ≤ 281474976710656) : (∀ w, (convert 3 33 (.int .i64 ((mk k i : Nat) : Int))).run Try.prog w = .ok (.float .f64 (mb k i)) w) ∧ floatOfInt .f64 ((mk k i : Nat) : Int) = mb k i ∧
    (FloatKind.f64.format.order (mb k i) (mb k i) == some .eq) = true := by
  have hF := (intW_fin (n := ((mk k i : Nat) : Int)) (by unfold mk; omega)).1
  refine ⟨fun w => conv_int_real _ w, rfl, ?_⟩
  show (Ieee.double.order (mb k i) (mb k i) == some .eq) = true
  unfold mb
  rw [cmp_eq hF hF]
  simp
theorem mb_lt (k i : Nat) : mb k i < 18446744073709551616 := intW_lt _

/-- the marks behind lent floats -/
def marks (k : Nat) : List Nat := (List.range k).map (mb 1)
theorem marks_len (k : Nat) : (marks k).length = k := by simp [marks]
theorem marks_succ (k : Nat) : marks (k + 1) = marks k ++ [mb 1 k] := by simp [marks, List.range_succ]

theorem Sl_partsC {w : World} {v : Value} {l : List Nat} (h : Sl w v (Fb l)) : ∃ a c, v = .slice a l.length c ∧ l.length ≤ c ∧ c ≤ maxLen ∧ (a = none → l.length = 0 ∧ c = 0) ∧
    (∀ ad, a = some ad → ∀ j u, (Fb l)[j]? = some u → w.cell? (ad.add j) = some u ∧ (ad.add j).block < w.heap.size) := by
  obtain ⟨a, c, rfl, hc, hcm, h1⟩ := h
  rw [Fb_len] at hc ⊢
  refine ⟨a, c, rfl, hc, hcm, ?_, ?_⟩
  · rintro rfl
    rcases h1 with ⟨h0, rfl⟩ | ⟨b, off, h9, _⟩
    · exact ⟨by omega, rfl⟩
    · cases h9
  · rintro ad rfl j u hj
    rcases h1 with ⟨h0, _⟩ | ⟨b, off, h9, hb, hcell⟩
    · rw [h0] at hj; simp at hj
    · cases h9
      rw [addr_add]
      exact ⟨hcell j u hj, hb⟩

set_option maxRecDepth 4000 in
theorem lentReals_any (v : Value) (l : List Nat) (w : World) (hv : Sl w v (Fb l)) (hl : l.length * 8 ≤ 140737488351232) :
    Calls Try.prog 50 #[v] w fun e w' => e = .returned (.slice (some ⟨w.heap.size, 0, none⟩) l.length (l.length + 12)) ∧ Below w.heap.size w w' ∧
      w'.ownsRow w.heap.size 33 1 (.slice (some ⟨w.heap.size, 0, none⟩) (l.length + 12) (l.length + 12)) (l.length + 12) (Fb (l ++ marks 12)) := by
  obtain ⟨a, c, rfl, hc, hcm, hnone, hcell⟩ := Sl_partsC hv
  obtain ⟨n, hn⟩ : ∃ n, l.length = n := ⟨_, rfl⟩
  rw [hn] at hc hnone hl ⊢
  obtain ⟨i0, hi, hz0, hz1, hz2⟩ := info_parts info33
  have HI := hid hi
  have HZ := hid hz2
  have HC := hid hcell
  have HN := hid hnone
  have HL := hid hn
  clear hi hz2 hcell hnone hv hn
  unfold maxLen at hcm
  go_enter Try.func50, Try.ntmps50
  go_wp2_with (first
    | (at_make; refine wpList_make_own _ rfl _ _ 27 rfl w.heap.size 33 i0 (.float .f64 0) 1 Try.underlying27 HI.out hz0 hz1 .i64 .i64 _ (n + 12) rfl rfl (by push_cast; rfl) (by rw [HZ.out]; omega) (by unfold maxLen; omega) (Nat.le_refl _) ?_; intro w1 hown hgrow)
    | (at_builtin; refine wpList_append_fits_any _ rfl _ _ 27 rfl w.heap.size 33 i0 1 Try.underlying27 HI.out hz1 w.heap.size 0 (n + 12) [] rfl hown a n c (Fb l) rfl (by rw [Fb_len, HL.out]; omega) HN.out (fun ad h j u hu => by rw [((Below.refl _ _).grown (B := w.heap.size) hgrow (Nat.le_refl _) (fun k hk => absurd (show (none : Option Nat) = some k from hk) (by simp))).cell (HC.out ad h j u hu).2]; exact (HC.out ad h j u hu).1) (Fb_one l) (by omega) ?_; intro w2 hown2 hgrow2))
  have hb2 := ((Below.refl w.heap.size w).grown hgrow (Nat.le_refl _) (fun k hk => absurd (show (none : Option Nat) = some k from hk) (by simp))).grown hgrow2 (by have := hgrow.size; omega) (fun k hk => by cases hk; exact Nat.le_refl _)
  have HB := hid hb2
  have HO := hid hown2
  clear hgrow hgrow2 hown hown2 hb2
  go_loopw [3, 4] (fun s i wr => ∃ k : Nat, k ≤ 12 ∧ i = .int .i64 k ∧ s = .slice (some ⟨w.heap.size, 0, none⟩) (n + k) (n + 12) ∧ Below w.heap.size w wr ∧ wr.ownsRow w.heap.size 33 1 (.slice (some ⟨w.heap.size, 0, none⟩) (n + k) (n + 12)) (n + k) (Fb (l ++ marks k))) (fun _ i _ => 12 - (intOf i).toNat)
  case atStart => exact ⟨0, by omega, rfl, by simp, HB.out, by simpa [marks] using HO.out⟩
  case round =>
    obtain ⟨k, hk, rfl, rfl, hB, hO⟩ := hrel
    have HBR := hid hB
    have HOR := hid hO
    clear hB hO
    by_cases hlt : k < 12
    · have hlt' : (k : Int) < 12 := by omega
      obtain ⟨f1, f2, _⟩ := mark_facts 1 k (by omega) (by omega)
      go_wp2_with fail
      refine (mark_any 1 k (by omega) (by omega) _).mono ?_
      rintro e w3 ⟨rfl, hw⟩
      obtain rfl := hw
      generalize ((mk 1 k : Nat) : Int) = MK at f1 f2 ⊢
      go_wp2_with (at_builtin; refine wpList_append_fits _ rfl _ _ 27 rfl w.heap.size 33 i0 1 Try.underlying27 HI.out hz1 w.heap.size (n + k) (n + 12) (Fb (l ++ marks k)) rfl (HOR.out.alloc _) ⟨wr.heap.size, 0, none⟩ 1 1 [.float .f64 (mb 1 k)] rfl rfl (cell_one_new _ _ _) (by intro u hu; rw [List.mem_singleton] at hu; subst hu; rfl) (by omega) ?_; intro w4 hown hgrow)
      go_roundw
      case rel =>
        refine ⟨k + 1, by omega, by go_num, rfl, ?_, ?_⟩
        · exact (HBR.out.alloc HBR.out.size _).grown hgrow (by have := HBR.out.size; simp; omega) (fun k hk => by cases hk; exact Nat.le_refl _)
        · rw [marks_succ, ← List.append_assoc, Fb_app]; exact hown
      case measure => simp [intOf]; omega
    · obtain rfl : k = 12 := by omega
      go_wp2
      go_ret
      exact ⟨rfl, HBR.out, HOR.out⟩

theorem same_self (x : Nat) (hx : x < 18446744073709551616) (w : World) : Calls Try.prog 54 #[.float .f64 x, .float .f64 x] w fun e w' => e = .returned (.bool true) ∧ w = w' := by
  rcases three x hx with f | f | f
  · have h1 : (FloatKind.f64.format.order x x == some .eq) = true := by
      show (Ieee.double.order x x == some .eq) = true
      rw [cmp_eq f f]; simp
    clear hx f
    go_enter Try.func54, Try.ntmps54
    go_wp2_with fail
    go_ret
    exact ⟨rfl, rfl⟩
  · have h1 : (FloatKind.f64.format.order x x == some .eq) = true := by
      have h9 := self_inf f
      cases h8 : (FloatKind.f64.format.order x x == some .eq) with
      | true => rfl
      | false =>
        have : (FloatKind.f64.format.order x x != some .eq) = true := by
          show (!(FloatKind.f64.format.order x x == some .eq)) = true
          rw [h8]; rfl
        rw [this] at h9; cases h9
    clear hx f
    go_enter Try.func54, Try.ntmps54
    go_wp2_with fail
    go_ret
    exact ⟨rfl, rfl⟩
  · have h1 : (FloatKind.f64.format.order x x == some .eq) = false := by
      show (Ieee.double.order x x == some .eq) = false
      rw [order_nan x x f]; rfl
    have h2 := self_nan f
    clear hx f
    go_enter Try.func54, Try.ntmps54
    go_wp2_with fail
    go_ret
    exact ⟨rfl, rfl⟩

set_option maxRecDepth 8000 in
set_option maxHeartbeats 1000000 in
theorem sameReals_any (u v : Value) (q : List Nat) (w : World) (hu : Sl w u (Fb q)) (hv : Sl w v (Fb q)) (hq : ∀ j, at0 q j < 18446744073709551616) :
    Calls Try.prog 55 #[u, v] w fun e w' => e = .returned (.bool true) ∧ Below w.heap.size w w' := by
  obtain ⟨a1, c1, rfl, hc1, hm1, _⟩ := Sl_partsF hu
  obtain ⟨a2, c2, rfl, hc2, hm2, _⟩ := Sl_partsF hv
  have HU := hid hu
  have HV := hid hv
  have HQ := hid hq
  obtain ⟨n, hn⟩ : ∃ n, q.length = n := ⟨_, rfl⟩
  have HN := hid hn
  rw [hn] at hc1 hc2 HU HV ⊢
  unfold maxLen at hm1 hm2
  clear hu hv hn hq
  go_enter Try.func55, Try.ntmps55
  go_wp2_with fail
  go_loopw [5] (fun i wr => ∃ k : Nat, k ≤ n ∧ i = .int .i64 k ∧ Below w.heap.size w wr) (fun i _ => n - (intOf i).toNat)
  case atStart => exact ⟨0, by omega, rfl, Below.refl _ _⟩
  case round =>
    obtain ⟨k, hk, rfl, hb⟩ := hrel
    have HB := hid hb
    clear hb
    by_cases hlt : k < n
    · have hlt' : (k : Int) < (n : Int) := by omega
      obtain ⟨b1, o1, rfl, _, q1⟩ := Sl_cellF (k := k) (Sl_below HU.out HB.out (Nat.le_refl _)) (by rw [HN.out]; exact hlt)
      obtain ⟨b2, o2, rfl, _, q2⟩ := Sl_cellF (k := k) (Sl_below HV.out HB.out (Nat.le_refl _)) (by rw [HN.out]; exact hlt)
      have HA := hid (HQ.out k)
      generalize at0 q k = A at q1 q2 HA
      go_wp2_with fail
      go_big_quiet (first | (go_at_call 54; refine Calls.quiet_of_same ((same_self A HA.out _).mono fun e w' h => ⟨h.1, h.2.symm⟩)))
      go_wp2
      go_roundw
      case rel => exact ⟨k + 1, by omega, by go_num, below_drewN HB.out _⟩
      case measure => simp [intOf]; omega
    · obtain rfl : k = n := by omega
      go_wp2_with fail
      go_ret
      exact ⟨rfl, HB.out⟩

set_option maxHeartbeats 1000000 in
set_option maxRecDepth 8000 in
theorem keptReals_any (g : Nat) (v : Value) (l : List Nat) (w : World) (hl : l.length * 8 ≤ 140737488351232) (hw : ∀ j, at0 l j < 18446744073709551616) (ho : Sl w (.slice (some ⟨g, 0, none⟩) (l.length + 12) (l.length + 12)) (Fb (l ++ marks 12))) (hv : Sl w v (Fb l)) :
    Calls Try.prog 53 #[.slice (some ⟨g, 0, none⟩) l.length (l.length + 12), v] w fun e w' => e = .returned (.bool true) ∧ Below w.heap.size w w' := by
  obtain ⟨a, c, rfl, hc, hcm, _⟩ := Sl_partsF hv
  obtain ⟨n, hn⟩ : ∃ n, l.length = n := ⟨_, rfl⟩
  have HO := hid ho
  have HV := hid hv
  have HQ := hid hw
  rw [hn] at hl hc HO HV ⊢
  have HN := hid hn
  clear ho hv hn hw
  unfold maxLen at hcm
  go_enter Try.func53, Try.ntmps53
  go_wp2_with fail
  go_loopw [6] (fun i wr => ∃ k : Nat, k ≤ n + 12 ∧ i = .int .i64 k ∧ Below w.heap.size w wr) (fun i _ => n + 12 - (intOf i).toNat)
  case atStart => exact ⟨0, by omega, rfl, Below.refl _ _⟩
  case round =>
    obtain ⟨k, hk, rfl, hB⟩ := hrel
    have HB := hid hB
    clear hB
    by_cases hlt : k < n + 12
    · have hlt0 : (k : Int) < (n : Int) + 12 := by omega
      obtain ⟨b1, o1, e1, _, q1⟩ := Sl_cellF (k := k) (Sl_below HO.out HB.out (Nat.le_refl _)) (by rw [List.length_append, marks_len, HN.out]; omega)
      cases e1
      rw [Nat.zero_add] at q1
      by_cases h2 : k < n
      · have hd1 : decide ((k : Int) < (n : Int)) = true := by simp; omega
        have hlt1 : (k : Int) < (n : Int) := by omega
        have hd2 : decide (n ≤ k) = false := by simp; omega
        obtain ⟨b2, o2, rfl, _, q2⟩ := Sl_cellF (k := k) (Sl_below HV.out HB.out (Nat.le_refl _)) (by rw [HN.out]; exact h2)
        have e3 : at0 (l ++ marks 12) k = at0 l k := by
          unfold at0
          rw [List.getD_eq_getElem?_getD, List.getD_eq_getElem?_getD, List.getElem?_append_left (by rw [HN.out]; exact h2)]
        rw [e3] at q1
        clear e3
        have HA := hid (HQ.out k)
        generalize at0 l k = u at q1 q2 HA
        go_wp2_with fail
        go_big_quiet (first | (go_at_call 54; refine Calls.quiet_of_same ((same_self u HA.out _).mono fun e w' h => ⟨h.1, h.2.symm⟩)))
        go_wp2
        go_roundw
        case rel => exact ⟨k + 1, by omega, by go_num, below_drewN HB.out _⟩
        case measure => simp [intOf]; omega
      · obtain ⟨j, hj⟩ : ∃ j, j = k - n := ⟨_, rfl⟩
        have hj2 : j < 12 := by omega
        have hd1 : decide ((k : Int) < (n : Int)) = false := by simp; omega
        have hd3 : decide (k < n) = false := by simp; omega
        have hd2 : decide (n ≤ k) = true := by simp; omega
        have hle : (n : Int) ≤ (k : Int) := by omega
        have hw1 : IntKind.i64.wrap ((k : Int) - n) = (j : Int) := by rw [i64_in _ (by omega)]; omega
        have e3 : at0 (l ++ marks 12) k = mb 1 j := by
          unfold at0
          rw [List.getD_eq_getElem?_getD, List.getElem?_append_right (by rw [HN.out]; omega), HN.out, ← hj]
          simp [marks, hj2]
        rw [e3] at q1
        clear e3 hj
        have HJ := hid hj2
        obtain ⟨f1, f2, f3⟩ := mark_facts 1 j (by omega) (by omega)
        obtain ⟨MK, hMK⟩ : ∃ MK, ((mk 1 j : Nat) : Int) = MK := ⟨_, rfl⟩
        rw [hMK] at f1 f2
        have HMK := hid hMK
        generalize mb 1 j = M at q1 f1 f2 f3
        clear hMK
        go_wp2_with fail
        go_big_quiet (first | (go_at_call 51; refine Calls.quiet_of_same ((mark_any 1 j (by decide) (Nat.le_trans (Nat.le_of_lt HJ.out) (by decide)) _).mono fun e w' h => ⟨by rw [h.1, HMK.out], h.2.symm⟩)))
        go_wp2
        go_roundw
        case rel => exact ⟨k + 1, by omega, by go_num, below_drewN HB.out _⟩
        case measure => simp [intOf]; omega
    · obtain rfl : k = n + 12 := by omega
      go_wp2
      go_ret
      exact ⟨rfl, HB.out⟩
end Go.Proofs.Ytnaogcpcaabbhaa
