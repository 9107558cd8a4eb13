/- Above, Limit: the program's and the document's. -/
import Derived.Test.YtkabnaemchgeeaaRowsOf
namespace Go.Proofs.Ytkabnaemchgeeaa
open Go.RowKit FloatPlain

set_option maxHeartbeats 1000000 in
theorem above_any (n : Nat) (s : Int) (p : Nat) (w : World) (hn : n ≤ 4096) (hl : likB p = true) (hr : Ieee.double.sub one p = some (fsub one p)) (hok : Rows p n) (hs : SumOkay (rowN p n) (n + 1) (steps (n + 1) s)) :
    Calls Try.prog 22 #[.int .i64 n, .int .i64 s, .float .f64 p] w fun e w' => e = .returned (.tuple #[.float .f64 (bsum (rowN p n) (n + 1) (steps (n + 1) s)), .int .i64 0]) ∧ Below w.heap.size w w' := by
  have HOK := hid hok
  have HS := hid hs
  have HR := hid hr
  clear hok hs hr
  go_enter Try.func22, Try.ntmps22
  go_wp2_with fail
  refine (shows_any n p _ hn hl HR.out HOK.out).mono ?_
  rintro e w1 ⟨v, rfl, ho, hb⟩
  have HO := hid ho
  have HB := hid hb
  clear ho hb
  go_wp2_with fail
  have hcall := behind_any v (rowN p n) s w1 (Sl_of_own HO.out) (by rw [rowN_len]; omega) (by rw [rowN_len]; exact HS.out)
  rw [rowN_len] at hcall
  refine hcall.mono ?_
  rintro e w5 ⟨rfl, hw⟩
  obtain rfl := hw
  clear hcall
  go_wp2_with fail
  go_ret2
  exact ⟨rfl, HB.out⟩

set_option maxHeartbeats 1000000 in
theorem above_bad (n s : Int) (p : Nat) (w : World) (h : n < 0 ∨ 4096 < n) :
    Calls Try.prog 22 #[.int .i64 n, .int .i64 s, .float .f64 p] w fun e w' => e = .returned (.tuple #[.float .f64 0, .int .i64 2]) ∧ w = w' := by
  have H := hid h
  clear h
  go_enter Try.func22, Try.ntmps22
  go_wp2_with fail
  refine (shows_bad n p _ H.out).mono ?_
  rintro e w5 ⟨rfl, hw⟩
  obtain rfl := hw
  go_wp2_with fail
  go_ret2
  exact ⟨rfl, rfl⟩

set_option maxHeartbeats 1000000 in
theorem above_unlikely (n s : Int) (p : Nat) (w : World) (h0 : 0 ≤ n) (h1 : n ≤ 4096) (hl : likB p = false) :
    Calls Try.prog 22 #[.int .i64 n, .int .i64 s, .float .f64 p] w fun e w' => e = .returned (.tuple #[.float .f64 0, .int .i64 250]) ∧ w = w' := by
  go_enter Try.func22, Try.ntmps22
  go_wp2_with fail
  refine (shows_unlikely n p _ h0 h1 hl).mono ?_
  rintro e w5 ⟨rfl, hw⟩
  obtain rfl := hw
  go_wp2_with fail
  go_ret2
  exact ⟨rfl, rfl⟩

set_option maxHeartbeats 1000000 in
theorem refAbove_any (n : Nat) (s : Int) (p : Nat) (w : World) (hn : n ≤ 4096) (hl : likB p = true) (hr : Ieee.double.sub one p = some (fsub one p)) (hok : Rows p n) (hs : SumOkay (rowN p n) (n + 1) (steps (n + 1) s)) :
    Calls Try.prog 23 #[.int .i64 n, .int .i64 s, .float .f64 p] w fun e w' => e = .returned (.tuple #[.float .f64 (bsum (rowN p n) (n + 1) (steps (n + 1) s)), .int .i64 0]) ∧ Below w.heap.size w w' := by
  have HOK := hid hok
  have HS := hid hs
  have HR := hid hr
  clear hok hs hr
  go_enter Try.func23, Try.ntmps23
  go_wp2_with fail
  refine (refShows_any n p _ hn hl HR.out HOK.out).mono ?_
  rintro e w1 ⟨v, rfl, ho, hb⟩
  have HO := hid ho
  have HB := hid hb
  clear ho hb
  go_wp2_with fail
  have hcall := refBehind_any v (rowN p n) s w1 (Sl_of_own HO.out) (by rw [rowN_len]; omega) (by rw [rowN_len]; exact HS.out)
  rw [rowN_len] at hcall
  refine hcall.mono ?_
  rintro e w5 ⟨rfl, hw⟩
  obtain rfl := hw
  clear hcall
  go_wp2_with fail
  go_ret2
  exact ⟨rfl, HB.out⟩

set_option maxHeartbeats 1000000 in
theorem refAbove_bad (n s : Int) (p : Nat) (w : World) (h : n < 0 ∨ 4096 < n) :
    Calls Try.prog 23 #[.int .i64 n, .int .i64 s, .float .f64 p] w fun e w' => e = .returned (.tuple #[.float .f64 0, .int .i64 2]) ∧ w = w' := by
  have H := hid h
  clear h
  go_enter Try.func23, Try.ntmps23
  go_wp2_with fail
  refine (refShows_bad n p _ H.out).mono ?_
  rintro e w5 ⟨rfl, hw⟩
  obtain rfl := hw
  go_wp2_with fail
  go_ret2
  exact ⟨rfl, rfl⟩

set_option maxHeartbeats 1000000 in
theorem refAbove_unlikely (n s : Int) (p : Nat) (w : World) (h0 : 0 ≤ n) (h1 : n ≤ 4096) (hl : likB p = false) :
    Calls Try.prog 23 #[.int .i64 n, .int .i64 s, .float .f64 p] w fun e w' => e = .returned (.tuple #[.float .f64 0, .int .i64 250]) ∧ w = w' := by
  go_enter Try.func23, Try.ntmps23
  go_wp2_with fail
  refine (refShows_unlikely n p _ h0 h1 hl).mono ?_
  rintro e w5 ⟨rfl, hw⟩
  obtain rfl := hw
  go_wp2_with fail
  go_ret2
  exact ⟨rfl, rfl⟩

/-- the lesser of two ints, as the walk meets it -/
theorem wpList_min2 {w : World} {ops : Array Oper} {rest : List Oper} {o : Oper} {a : Act} {Q : Exit → Act → World → Prop} (hgd : o.guard = none) (x y : Operand)
    (ho : o.op = .call { callee := .builtin .min, args := #[x, y], argTypes := #[3, 3] }) (X Y M : Int) (hx : a.eval x = .int .i64 X) (hy : a.eval y = .int .i64 Y) (hM : (if Y < X then Y else X) = M)
    (h : wpList Try.prog ops Q rest (a.put o.dst (.int .i64 M)) w) : wpList Try.prog ops Q (o :: rest) a w := by
  refine wpList_plain hgd fun K hK => ?_
  have hrun := run_min_int2 (P := Try.prog) w #[3, 3] o.type .i64 .i64 X Y
  rw [hM] at hrun
  unfold Oper.wp
  simp [execOp, ho, resolve, invoke, builtin, hx, hy, hrun, Result.andThen]
  exact hK _ _ h

/-- is the sum behind above the risk? -/
def over (p risk : Nat) (s : Int) (n : Nat) : Bool := Ieee.double.order (bsum (rowN p n) (n + 1) (steps (n + 1) s)) risk == some .gt
/-- the limit, looked for from n on -/
def limGo (p risk : Nat) (s : Int) : Nat → Nat → Nat
  | 0, n => n
  | f + 1, n => if over p risk s (n + 1) then n else limGo p risk s f (n + 1)
/-- the rows' sums up to n have values -/
def Sums (p n : Nat) (s : Int) : Prop := ∀ m, m ≤ n → SumOkay (rowN p m) (m + 1) (steps (m + 1) s)
def most (n : Nat) : Nat := min 4096 (4 * n + 16)

set_option maxRecDepth 8000 in
set_option maxHeartbeats 2000000 in
theorem limit_any (n p risk : Nat) (w : World) (hn : n ≤ 1024) (hl : likB p = true) (hk : likB risk = true) (hr : Ieee.double.sub one p = some (fsub one p)) (hok : Rows p (most n)) (hs : Sums p (most n) n) :
    Calls Try.prog 12 #[.int .i64 n, .float .f64 p, .float .f64 risk] w fun e w' => e = .returned (.tuple #[.int .i64 (limGo p risk n (most n - n) n), .int .i64 0]) ∧ Below w.heap.size w w' := by
  have hm : most n ≤ 4096 := Nat.min_le_left _ _
  have hnm : n ≤ most n := by unfold most; omega
  have HOK := hid hok
  have HS := hid hs
  have HR := hid hr
  clear hok hs hr
  have hn0 : (0 : Int) ≤ (n : Int) := by omega
  have hn1 : (n : Int) ≤ 1024 := by omega
  obtain ⟨M, hM⟩ : ∃ M, most n = M := ⟨_, rfl⟩
  have HM := hid hM
  rw [hM] at hm hnm HOK HS ⊢
  clear hM
  have hw1 : IntKind.i64.wrap (4 * (n : Int)) = 4 * (n : Int) := by rw [IntKind.wrap_i64]; omega
  have hw2 : IntKind.i64.wrap (4 * (n : Int) + 16) = 4 * (n : Int) + 16 := by rw [IntKind.wrap_i64]; omega
  go_enter Try.func12, Try.ntmps12
  go_wp2_with fail
  refine (likely_any _ _).mono ?_
  rintro e w5 ⟨rfl, hw⟩
  obtain rfl := hw
  rw [hl]
  go_wp2_with fail
  refine (likely_any _ _).mono ?_
  rintro e w5 ⟨rfl, hw⟩
  obtain rfl := hw
  rw [hk]
  go_wp2_with fail
  refine (shows_any n p _ (by omega) hl HR.out (fun m h => HOK.out m (by omega))).mono ?_
  rintro e w1 ⟨v, rfl, ho, hb⟩
  have HO := hid ho
  have HB := hid hb
  clear ho hb
  go_wp2_with (refine wpList_min2 rfl _ _ rfl 4096 (4 * (n : Int) + 16) M rfl rfl (by rw [← HM.out]; unfold most; split <;> omega) ?_)
  go_loopw [8, 10] (fun v i wr => ∃ k : Nat, n ≤ k ∧ k ≤ M ∧ i = .int .i64 k ∧ wr.ownsRow w.heap.size 22 1 v (k + 1) (Fb (rowN p k)) ∧ Below w.heap.size w wr ∧ limGo p risk n (M - k) k = limGo p risk n (M - n) n) (fun _ i _ => M - (intOf i).toNat)
  case atStart => exact ⟨n, by omega, hnm, rfl, HO.out, HB.out, rfl⟩
  case round =>
    obtain ⟨k, hnk, hk', rfl, hoR, hbR, hL⟩ := hrel
    have HOR := hid hoR
    have HBR := hid hbR
    have HL := hid hL
    clear hoR hbR hL
    by_cases hlt : k < M
    · have hlt' : (k : Int) < (M : Int) := by omega
      obtain ⟨f, hf⟩ : ∃ f, M - k = f + 1 := ⟨M - k - 1, by omega⟩
      have HF := hid hf
      have HF2 := hid (show M - (k + 1) = f by omega)
      clear hf
      go_wp2_with fail
      have hcall := grown_any u8 (rowN p k) p wr w.heap.size HBR.out.size (by rw [rowN_len]; exact HOR.out) (by rw [rowN_len]; omega) (by rw [rowN_len]; omega) (HOK.out k hlt) HR.out
      rw [rowN_len, ← rowN_succ] at hcall
      refine hcall.mono ?_
      rintro e w2 ⟨v2, rfl, ho2, hb2⟩
      have HO2 := hid ho2
      have HB2 := hid (HBR.out.trans hb2)
      clear hcall ho2 hb2
      go_wp2_with fail
      have hcall := behind_any v2 (rowN p (k + 1)) n w2 (Sl_of_own HO2.out) (by rw [rowN_len]; omega) (by rw [rowN_len]; exact HS.out (k + 1) (by omega))
      rw [rowN_len] at hcall
      refine hcall.mono ?_
      rintro e w5 ⟨rfl, hw⟩
      obtain rfl := hw
      clear hcall
      obtain ⟨b, hb⟩ : ∃ b, over p risk n (k + 1) = b := ⟨_, rfl⟩
      have HOV := hid hb
      have hcmp : (FloatKind.f64.format.order (bsum (rowN p (k + 1)) (k + 1 + 1) (steps (k + 1 + 1) n)) risk == some .gt) = b := hb
      clear hb
      generalize bsum (rowN p (k + 1)) (k + 1 + 1) (steps (k + 1 + 1) n) = S at hcmp ⊢
      cases b
      · go_wp2_with fail
        go_roundw
        case rel =>
          refine ⟨k + 1, by omega, by omega, by go_num, HO2.out, HB2.out, ?_⟩
          rw [← HL.out, HF.out, HF2.out]
          show _ = if over p risk n (k + 1) = true then k else limGo p risk n f (k + 1)
          rw [HOV.out]; rfl
        case measure => simp [intOf]; omega
      · go_wp2_with fail
        go_ret2
        refine ⟨?_, HB2.out⟩
        rw [← HL.out, HF.out]
        show _ = Ending.returned (.tuple #[.int .i64 ((if over p risk n (k + 1) = true then k else limGo p risk n f (k + 1) : Nat) : Int), .int .i64 0])
        rw [HOV.out]; rfl
    · obtain rfl : k = M := by omega
      go_wp2_with fail
      go_ret2
      refine ⟨?_, HBR.out⟩
      rw [← HL.out, Nat.sub_self]
      rfl

theorem limit_bad (n : Int) (p risk : Nat) (w : World) (h : n < 0 ∨ 1024 < n) :
    Calls Try.prog 12 #[.int .i64 n, .float .f64 p, .float .f64 risk] w fun e w' => e = .returned (.tuple #[.int .i64 0, .int .i64 2]) ∧ w = w' := by
  by_cases h0 : n < 0
  · go_enter Try.func12, Try.ntmps12
    go_wp2_with fail
    go_ret2
    exact ⟨rfl, rfl⟩
  · have h1 : 1024 < n := by omega
    go_enter Try.func12, Try.ntmps12
    go_wp2_with fail
    go_ret2
    exact ⟨rfl, rfl⟩

theorem limit_unlikely (n : Int) (p risk : Nat) (w : World) (h0 : 0 ≤ n) (h1 : n ≤ 1024) (hl : (likB p && likB risk) = false) :
    Calls Try.prog 12 #[.int .i64 n, .float .f64 p, .float .f64 risk] w fun e w' => e = .returned (.tuple #[.int .i64 0, .int .i64 250]) ∧ w = w' := by
  obtain ⟨b1, hb1⟩ : ∃ b, likB p = b := ⟨_, rfl⟩
  obtain ⟨b2, hb2⟩ : ∃ b, likB risk = b := ⟨_, rfl⟩
  rw [hb1, hb2] at hl
  have HB1 := hid hb1
  have HB2 := hid hb2
  clear hb1 hb2
  cases b1
  · go_enter Try.func12, Try.ntmps12
    go_wp2_with fail
    refine (likely_any p _).mono ?_
    rintro e w5 ⟨rfl, hw⟩
    obtain rfl := hw
    rw [HB1.out]
    go_wp2_with fail
    go_ret2
    exact ⟨rfl, rfl⟩
  · obtain rfl : b2 = false := by simpa using hl
    go_enter Try.func12, Try.ntmps12
    go_wp2_with fail
    refine (likely_any p _).mono ?_
    rintro e w5 ⟨rfl, hw⟩
    obtain rfl := hw
    rw [HB1.out]
    go_wp2_with fail
    refine (likely_any risk _).mono ?_
    rintro e w5 ⟨rfl, hw⟩
    obtain rfl := hw
    rw [HB2.out]
    go_wp2_with fail
    go_ret2
    exact ⟨rfl, rfl⟩
end Go.Proofs.Ytkabnaemchgeeaa
