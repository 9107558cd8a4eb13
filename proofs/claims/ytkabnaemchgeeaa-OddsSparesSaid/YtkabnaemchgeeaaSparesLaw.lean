/- The law OddsSpares, by its contracts. -/
import Derived.Test.YtkabnaemchgeeaaApartB
namespace Go.Proofs.Ytkabnaemchgeeaa
open Go.RowKit FloatPlain

theorem copy_any (v : Value) (l : List Nat) (w : World) (hv : Sl w v (Eb l)) (hl : l.length ≤ 1000000) :
    Calls Try.prog 18 #[v] w fun e w' => ∃ v', e = .returned v' ∧ w'.ownsRow w.heap.size 22 1 v' l.length (Eb l) ∧ Below w.heap.size w w' := by
  obtain ⟨a, c, rfl, hc, hcm, h1⟩ := hv
  rw [Eb_len] at hc ⊢
  unfold maxLen at hcm
  obtain ⟨i0, hi, hz0, hz1, hz2⟩ := info_parts infoE
  have HL := hid hl
  have HI := hid hi
  have HZ := hid hz2
  clear hl hi hz2
  rcases h1 with ⟨h0, rfl⟩ | ⟨b, off, rfl, hb, hcell⟩
  · have hl0 : l = [] := by simpa [Fb] using h0
    subst hl0
    cases a with
    | none =>
      go_enter Try.func18, Try.ntmps18
      go_wp2
      go_ret
      exact ⟨_, rfl, World.ownsRow_nil _ _ _ _, Below.refl _ _⟩
    | some x =>
      go_enter Try.func18, Try.ntmps18
      go_wp2_with (at_builtin; refine wpList_append_own _ rfl _ _ 29 rfl w.heap.size 22 i0 (.float .f64 0) 1 8 Try.underlying29 HI.out hz0 hz1 HZ.out rfl (by decide) _ 0 [] rfl (World.ownsRow_nil _ _ _ _) x 0 0 [] rfl rfl (fun j u hj => by simp at hj) (by simp) (by unfold maxLen; omega) (by omega) (Nat.le_refl _) ?_; intro v' w1 hown hgrow _)
      go_ret
      refine ⟨_, rfl, by simpa [Fb] using hown, (Below.refl _ _).grown hgrow (Nat.le_refl _) (fun k hk => ?_)⟩
      exact absurd (show (none : Option Nat) = some k from hk) (by simp)
  · have HC := hid hcell
    clear hcell
    go_enter Try.func18, Try.ntmps18
    go_wp2_with (at_builtin; refine wpList_append_own _ rfl _ _ 29 rfl w.heap.size 22 i0 (.float .f64 0) 1 8 Try.underlying29 HI.out hz0 hz1 HZ.out rfl (by decide) _ 0 [] rfl (World.ownsRow_nil _ _ _ _) ⟨b, off, none⟩ l.length c (Eb l) rfl (by rw [Eb_len]; omega) (fun j u hj => by rw [addr_add]; exact HC.out j u hj) (Eb_one l) (by have := HL.out; unfold maxLen; omega) (by have := HL.out; omega) (Nat.le_refl _) ?_; intro v' w1 hown hgrow _)
    go_ret
    refine ⟨_, rfl, by simpa using hown, (Below.refl _ _).grown hgrow (Nat.le_refl _) (fun k hk => ?_)⟩
    exact absurd (show (none : Option Nat) = some k from hk) (by simp)

/-- what Shows answers, of a number of seats and a float -/
theorem shows_all (n p : Nat) (hn : n ≤ 60) (hp : p < 18446744073709551616) : ∃ (q : List Nat) (e0 : Int), q.length ≤ 100 ∧
    (∀ w, Calls Try.prog 16 #[.int .i64 n, .float .f64 p] w fun e w' => ∃ a c, e = .returned (.tuple #[.slice a q.length c, .int .i64 e0]) ∧ w'.ownsRow w.heap.size 22 1 (.slice a q.length c) q.length (Eb q) ∧ Below w.heap.size w w') := by
  by_cases hl : likB p = true
  · have hL := (likB_iff p hp).1 hl
    have hlen : (rowN p n).length = n + 1 := rowN_len p n
    refine ⟨rowN p n, 0, by omega, fun w => ?_⟩
    refine (shows_any n p w (by omega) hl (sub_lik hL).1 (rows_lik hL n (by omega))).mono ?_
    rintro e w' ⟨v', rfl, ho, hb⟩
    rw [← hlen] at ho
    obtain ⟨a, c, rfl, _, _⟩ := own_form ho
    exact ⟨a, c, rfl, ho, hb⟩
  · refine ⟨[], 250, by simp, fun w => ?_⟩
    refine (shows_unlikely n p w (by omega) (by omega) (by simpa using hl)).mono ?_
    rintro e w' ⟨rfl, hw⟩
    obtain rfl := hw
    exact ⟨none, 0, rfl, World.ownsRow_nil _ _ _ _, Below.refl _ _⟩

theorem two_new (w : World) (x0 x1 : Value) (t : TypeId) : ∀ j u, [x0, x1][j]? = some u → (w.alloc (.cells #[x0, x1] t)).cell? ⟨w.heap.size, j, none⟩ = some u := by
  intro j u h
  rw [World.cell?_alloc_at _ _ _ _ rfl]
  simpa using h

set_option maxRecDepth 8000 in
set_option maxHeartbeats 4000000 in
theorem oddsSpares_any (x : Int) (p : Nat) (hp : p < 18446744073709551616) (w : World) :
    Calls Try.prog 7 #[.int .i64 x, .float .f64 p] w fun e w' => e = .returned (.bool true) ∧ Below w.heap.size w w' := by
  obtain ⟨n, hn⟩ : ∃ n : Nat, x % 60 = n := ⟨(x % 60).toNat, by omega⟩
  have hnb : n < 60 := by omega
  have HPK := hid hn
  obtain ⟨q, e0, hq, hs⟩ := shows_all n p (by omega) hp
  have HQ := hid hq
  have HS := hid hs
  clear hn hq hs
  go_enter Try.func7, Try.ntmps7
  go_wp2_with fail
  refine (pick_any x 60 (by omega) (by omega) _).mono ?_
  rintro e w1 ⟨rfl, hw⟩
  obtain rfl := hw
  rw [HPK.out]
  go_wp2_with fail
  refine (HS.out _).mono ?_
  rintro e w1 ⟨ax, cx, rfl, ho, hb⟩
  have HX1 := hid ho
  have HB1 := hid hb
  clear ho hb
  go_wp2_with fail
  refine (HS.out _).mono ?_
  rintro e w2 ⟨ay, cy, rfl, ho, hb⟩
  have HY2 := hid ho
  have HX2 := hid (own_below HX1.out hb (Nat.le_refl _))
  have HF := hid (show Far (.slice ax q.length cx) (.slice ay q.length cy) from fun k h1 h2 => by
    have e1 := (HX1.out.lt k h1).2
    have e2 := (ho.lt k h2).1
    omega)
  have HB12 := hid hb
  have HB2 := hid (HB1.out.trans (hb.mono HB1.out.size))
  clear ho hb
  go_wp2_with fail
  refine (copy_any _ q _ (Sl_of_own HX2.out) (by have := HQ.out; omega)).mono ?_
  rintro e w3 ⟨vw, rfl, ho, hb⟩
  obtain ⟨aw, cw, rfl, _, _⟩ := own_form ho
  have HW3 := hid ho
  have HX3 := hid (own_below HX2.out hb (Nat.le_refl _))
  have HY3 := hid (own_below HY2.out hb (Nat.le_refl _))
  have HB23 := hid hb
  have HB3 := hid (HB2.out.trans (hb.mono HB2.out.size))
  clear ho hb
  go_wp2_with fail
  have hcells := two_new w3 (.slice ax q.length cx) (.slice ay q.length cy) 29
  refine (apart_any w.heap.size w3.heap.size 2 (fun k => if k = 0 then ax else ay) (fun _ => q.length) (fun k => if k = 0 then cx else cy) (fun _ => q) _ ?_ HF.out (fun k hk => Nat.le_trans HQ.out (by decide)) ?_ ?_).mono ?_
  · intro k hk
    rcases (show k = 0 ∨ k = 1 by omega) with rfl | rfl
    · exact HX3.out.alloc _
    · exact (own_mono HY3.out HB1.out.size).alloc _
  · intro k hk
    rcases (show k = 0 ∨ k = 1 by omega) with rfl | rfl
    · exact hcells 0 _ rfl
    · exact hcells 1 _ rfl
  · have := HB3.out.size
    simp; omega
  rintro e w4 ⟨rfl, hb, hp4⟩
  have hw4 : w4.ownsRow w2.heap.size 22 1 (.slice aw q.length cw) q.length (Eb q) := by
    refine own_block (HW3.out.alloc (.cells #[.slice ax q.length cx, .slice ay q.length cy] 29)) (fun k hk => hp4 k (own_lt (HW3.out.alloc _) hk) (fun j hj e => ?_))
    have h1 := (HW3.out.lt k hk).1
    rcases (show j = 0 ∨ j = 1 by omega) with rfl | rfl
    · have := (HX1.out.lt k e).2; have := HB12.out.size; omega
    · have := (HY2.out.lt k e).2; omega
  have HW4 := hid hw4
  have HB4 := hid ((HB3.out.alloc HB3.out.size _).trans hb)
  clear hb hp4 hw4 hcells
  go_wp2_with fail
  refine (HS.out _).mono ?_
  rintro e w5 ⟨az, cz, rfl, ho, hb⟩
  have HZ5 := hid ho
  have HW5 := hid (own_below HW4.out hb (Nat.le_refl _))
  have HB5 := hid (HB4.out.trans (hb.mono HB4.out.size))
  clear ho hb
  go_wp2_with fail
  refine (bits_any _ _ q _ (Sl_of_own HZ5.out) (Sl_of_own HW5.out) (by have := HQ.out; omega)).mono ?_
  rintro e w6 ⟨rfl, hb⟩
  have HB6 := hid (HB5.out.trans (hb.mono HB5.out.size))
  clear hb
  go_wp2_with fail
  refine (awake_any _).mono ?_
  rintro e w7 ⟨rfl, hb⟩
  have HB7 := hid (HB6.out.trans (hb.mono HB6.out.size))
  clear hb
  go_wp2_with fail
  go_ret
  exact ⟨rfl, HB7.out⟩
end Go.Proofs.Ytkabnaemchgeeaa
