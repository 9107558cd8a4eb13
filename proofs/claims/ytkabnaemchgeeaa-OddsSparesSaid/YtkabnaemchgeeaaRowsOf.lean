/- Shows, Above: the program's and the document's. -/
import Derived.Test.YtkabnaemchgeeaaShows
namespace Go.Proofs.Ytkabnaemchgeeaa
open Go.RowKit FloatPlain

theorem own_of_cells {w : World} {g n cap base : Nat} {C : Array Value} {xs : List Value} (hg : w.heap[g]? = some (.cells C 22 (0, 0))) (hb : base ≤ g) (hn : n ≤ cap) (hm : cap ≤ maxLen) (hC : C.size = cap) (hx : C.toList.take n = xs) :
    w.ownsRow base 22 1 (.slice (some ⟨g, 0, none⟩) n cap) n xs := by
  refine ⟨?_, .inr ⟨g, cap, C, rfl, hb, hg, hn, hm, by omega, by rw [Nat.mul_one]; exact hx⟩⟩
  rw [← hx, List.length_take, Array.length_toList]
  omega

/-- rows up to n have values -/
def Rows (p n : Nat) : Prop := ∀ m, m < n → Okay (rowN p m) p (fsub one p)

theorem rowN_succ (p n : Nat) : rowN p (n + 1) = nextRow (rowN p n) p (fsub one p) := rfl

set_option maxRecDepth 8000 in
set_option maxHeartbeats 1000000 in
theorem shows_any (n : Nat) (p : Nat) (w : World) (hn : n ≤ 4096) (hl : likB p = true) (hr : Ieee.double.sub one p = some (fsub one p)) (hok : Rows p n) :
    Calls Try.prog 16 #[.int .i64 n, .float .f64 p] w fun e w' => ∃ v, e = .returned (.tuple #[v, .int .i64 0]) ∧ w'.ownsRow w.heap.size 22 1 v (n + 1) (Fb (rowN p n)) ∧ Below w.heap.size w w' := by
  obtain ⟨i0, hi, hz0, hz1, hz2⟩ := info_parts info22
  have hw1 : IntKind.i64.wrap ((n : Int) + 1) = (n : Int) + 1 := by rw [IntKind.wrap_i64]; omega
  have hn0 : (0 : Int) ≤ (n : Int) := by omega
  have hn1 : (n : Int) ≤ 4096 := by omega
  have hmk := run_make (P := Try.prog) w 29 22 i0 (.float .f64 0) Try.underlying29 hi hz0 .i64 .i64 1 ((n : Int) + 1) (by omega) (by omega) (by rw [hz2]; omega) (by omega)
  rw [hz1, Nat.mul_one, show ((n : Int) + 1).toNat = n + 1 by omega, show (1 : Int).toNat = 1 from rfl] at hmk
  obtain ⟨C, hC⟩ : ∃ C, madeCells (Value.float FloatKind.f64 0).cells (n + 1) = C := ⟨_, rfl⟩
  have hCs : C.size = n + 1 := by rw [← hC]; exact size_madeCells _ _
  have hC0 : C.toList.take 1 = [.float .f64 0] := by
    rw [← hC]
    have e : madeCells (Value.float FloatKind.f64 0).cells (n + 1) = madeCells #[Value.float FloatKind.f64 0] (n + 1) := rfl
    rw [e, toList_madeCells_one]
    simp [List.replicate_succ]
  rw [hC] at hmk
  have hown : (w.alloc (.cells C 22)).ownsRow w.heap.size 22 1 (.slice (some ⟨w.heap.size, 0, none⟩) 1 (n + 1)) 1 [.float .f64 0] :=
    own_of_cells (heap_alloc_new w _) (Nat.le_refl _) (by omega) (by unfold maxLen; omega) hCs hC0
  have hc0 : (w.alloc (.cells C 22)).cell? ⟨w.heap.size, 0, none⟩ = some (.float .f64 0) := by rw [hown.cellAt 0 (by omega)]; rfl
  have hf0 : (w.alloc (.cells C 22)).frozen? ⟨w.heap.size, 0, none⟩ = false := hown.frozenAt 0
  have hst := (hown.stored 0 (.float .f64 one)).1
  have HST := hid hst
  have hb : Below w.heap.size w ((w.alloc (.cells C 22)).setCell ⟨w.heap.size, 0, none⟩ (.float .f64 one)) := ((Below.refl _ _).alloc (Nat.le_refl _) _).setCell (Nat.le_refl _) _
  have HB := hid hb
  have HOK := hid hok
  have HR := hid hr
  have hstf := store_run
  clear hst hb hok hr hown hC hCs hC0 hi hz0 hz1 hz2
  generalize w.alloc (.cells C 22) = wa at *
  have ho : one = 4607182418800017408 := rfl
  rw [ho] at HST HB
  go_enter Try.func16, Try.ntmps16
  go_wp2_with fail
  refine (likely_any p _).mono ?_
  rintro e w5 ⟨rfl, hw⟩
  obtain rfl := hw
  rw [hl]
  go_wp2_with fail
  go_loopw [6, 24] (fun v i wr => ∃ k : Nat, k ≤ n ∧ i = .int .i64 k ∧ wr.ownsRow w.heap.size 22 1 v (k + 1) (Fb (rowN p k)) ∧ Below w.heap.size w wr) (fun _ i _ => n - (intOf i).toNat)
  case atStart => exact ⟨0, by omega, rfl, by simpa [rowN, Fb, one] using HST.out, HB.out⟩
  case round =>
    obtain ⟨k, hk, rfl, hoR, hbR⟩ := hrel
    have HOR := hid hoR
    have HBR := hid hbR
    clear hoR hbR
    by_cases hlt : k < n
    · have hlt' : (k : Int) < (n : Int) := by omega
      go_wp2_with fail
      have hcall := grown_any u6 (rowN p k) p wr w.heap.size HBR.out.size (by rw [rowN_len]; exact HOR.out) (by rw [rowN_len]; omega) (by rw [rowN_len]; omega) (HOK.out k hlt) HR.out
      rw [rowN_len, ← rowN_succ] at hcall
      refine hcall.mono ?_
      rintro e w2 ⟨v2, rfl, ho2, hb2⟩
      have HO2 := hid ho2
      have HB2 := hid (HBR.out.trans hb2)
      clear hcall ho2 hb2
      go_wp2_with fail
      go_roundw
      case rel => exact ⟨k + 1, by omega, by go_num, HO2.out, HB2.out⟩
      case measure => simp [intOf]; omega
    · obtain rfl : k = n := by omega
      go_wp2_with fail
      go_ret2
      exact ⟨_, rfl, HOR.out, HBR.out⟩

set_option maxHeartbeats 1000000 in
theorem shows_bad (n : Int) (p : Nat) (w : World) (h : n < 0 ∨ 4096 < n) :
    Calls Try.prog 16 #[.int .i64 n, .float .f64 p] w fun e w' => e = .returned (.tuple #[.slice none 0 0, .int .i64 2]) ∧ w = w' := by
  by_cases h0 : n < 0
  · go_enter Try.func16, Try.ntmps16
    go_wp2_with fail
    go_ret2
    exact ⟨rfl, rfl⟩
  · have h1 : 4096 < n := by omega
    go_enter Try.func16, Try.ntmps16
    go_wp2_with fail
    go_ret2
    exact ⟨rfl, rfl⟩

set_option maxHeartbeats 1000000 in
theorem shows_unlikely (n : Int) (p : Nat) (w : World) (h0 : 0 ≤ n) (h1 : n ≤ 4096) (hl : likB p = false) :
    Calls Try.prog 16 #[.int .i64 n, .float .f64 p] w fun e w' => e = .returned (.tuple #[.slice none 0 0, .int .i64 250]) ∧ w = w' := by
  go_enter Try.func16, Try.ntmps16
  go_wp2_with fail
  refine (likely_any p _).mono ?_
  rintro e w5 ⟨rfl, hw⟩
  obtain rfl := hw
  rw [hl]
  go_wp2_with fail
  go_ret2
  exact ⟨rfl, rfl⟩

set_option maxRecDepth 8000 in
set_option maxHeartbeats 1000000 in
theorem refShows_any (n : Nat) (p : Nat) (w : World) (hn : n ≤ 4096) (hl : likB p = true) (hr : Ieee.double.sub one p = some (fsub one p)) (hok : Rows p n) :
    Calls Try.prog 21 #[.int .i64 n, .float .f64 p] w fun e w' => ∃ v, e = .returned (.tuple #[v, .int .i64 0]) ∧ w'.ownsRow w.heap.size 22 1 v (n + 1) (Fb (rowN p n)) ∧ Below w.heap.size w w' := by
  have hn0 : (0 : Int) ≤ (n : Int) := by omega
  have hn1 : (n : Int) ≤ 4096 := by omega
  have HOK := hid hok
  have HR := hid hr
  clear hok hr
  have hown : (w.alloc (.cells #[.float .f64 4607182418800017408] 22)).ownsRow w.heap.size 22 1 (.slice (some ⟨w.heap.size, 0, none⟩) 1 1) 1 (Fb (rowN p 0)) :=
    own_of_cells (heap_alloc_new w _) (Nat.le_refl _) (by omega) (by unfold maxLen; omega) rfl rfl
  have HST := hid hown
  have HB := hid ((Below.refl w.heap.size w).alloc (Nat.le_refl _) (.cells #[.float .f64 4607182418800017408] 22))
  clear hown
  go_enter Try.func21, Try.ntmps21
  go_wp2_with fail
  refine (refLikely_any p _).mono ?_
  rintro e w5 ⟨rfl, hw⟩
  obtain rfl := hw
  rw [hl]
  go_wp2_with fail
  go_loopw [6, 7] (fun v i wr => ∃ k : Nat, k ≤ n ∧ i = .int .i64 k ∧ wr.ownsRow w.heap.size 22 1 v (k + 1) (Fb (rowN p k)) ∧ Below w.heap.size w wr) (fun _ i _ => n - (intOf i).toNat)
  case atStart => exact ⟨0, by omega, rfl, HST.out, HB.out⟩
  case round =>
    obtain ⟨k, hk, rfl, hoR, hbR⟩ := hrel
    have HOR := hid hoR
    have HBR := hid hbR
    clear hoR hbR
    by_cases hlt : k < n
    · have hlt' : (k : Int) < (n : Int) := by omega
      go_wp2_with fail
      have hcall := next_any u6 (rowN p k) p wr (Sl_of_own HOR.out) (by rw [rowN_len]; omega) (HOK.out k hlt) HR.out
      rw [rowN_len, ← rowN_succ] at hcall
      refine hcall.mono ?_
      rintro e w2 ⟨v2, rfl, ho2, hb2⟩
      have HO2 := hid (own_mono ho2 HBR.out.size)
      have HB2 := hid (HBR.out.trans (hb2.mono HBR.out.size))
      clear hcall ho2 hb2
      go_wp2_with fail
      go_roundw
      case rel => exact ⟨k + 1, by omega, by go_num, HO2.out, HB2.out⟩
      case measure => simp [intOf]; omega
    · obtain rfl : k = n := by omega
      go_wp2_with fail
      go_ret2
      exact ⟨_, rfl, HOR.out, HBR.out⟩

set_option maxHeartbeats 1000000 in
theorem refShows_bad (n : Int) (p : Nat) (w : World) (h : n < 0 ∨ 4096 < n) :
    Calls Try.prog 21 #[.int .i64 n, .float .f64 p] w fun e w' => e = .returned (.tuple #[.slice none 0 0, .int .i64 2]) ∧ w = w' := by
  by_cases h0 : n < 0
  · go_enter Try.func21, Try.ntmps21
    go_wp2_with fail
    go_ret2
    exact ⟨rfl, rfl⟩
  · have h1 : 4096 < n := by omega
    go_enter Try.func21, Try.ntmps21
    go_wp2_with fail
    go_ret2
    exact ⟨rfl, rfl⟩

set_option maxHeartbeats 1000000 in
theorem refShows_unlikely (n : Int) (p : Nat) (w : World) (h0 : 0 ≤ n) (h1 : n ≤ 4096) (hl : likB p = false) :
    Calls Try.prog 21 #[.int .i64 n, .float .f64 p] w fun e w' => e = .returned (.tuple #[.slice none 0 0, .int .i64 250]) ∧ w = w' := by
  go_enter Try.func21, Try.ntmps21
  go_wp2_with fail
  refine (refLikely_any p _).mono ?_
  rintro e w5 ⟨rfl, hw⟩
  obtain rfl := hw
  rw [hl]
  go_wp2_with fail
  go_ret2
  exact ⟨rfl, rfl⟩
end Go.Proofs.Ytkabnaemchgeeaa
