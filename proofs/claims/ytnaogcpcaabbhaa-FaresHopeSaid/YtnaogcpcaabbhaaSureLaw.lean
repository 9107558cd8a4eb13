/- The law FaresSure. -/
import Derived.Test.YtnaogcpcaabbhaaAwake
import Derived.Test.YtnaogcpcaabbhaaSurePlain
namespace Go.Proofs.Ytnaogcpcaabbhaa
open Go.RowKit FloatPlain

theorem pick_any (x n : Int) (hn : 1 ≤ n) (hn2 : n ≤ 9223372036854775807) (w : World) : Calls Try.prog 26 #[.int .i64 x, .int .i64 n] w fun e w' => e = .returned (.int .i64 (x % n)) ∧ w = w' := by
  have h0 : ¬ n < 1 := by omega
  have hz : (n == 0) = false := by simp; omega
  have k1 : x.tmod n < n := Int.tmod_lt_of_pos _ (by omega)
  have k2 : -n < x.tmod n := by
    have := Int.lt_tmod_of_pos x (b := n) (by omega)
    omega
  have E : (if x.tmod n < 0 then x.tmod n + n else x.tmod n) = x % n := by
    rw [Int.tmod_eq_emod]
    have e1 := Int.emod_nonneg x (b := n) (by omega)
    have e2 := Int.emod_lt_of_pos x (b := n) (by omega)
    split <;> split <;> omega
  have HE := hid E
  clear E
  by_cases c : x.tmod n < 0
  · go_enter Try.func26, Try.ntmps26
    go_wp2
    go_ret
    exact ⟨by rw [← HE.out, if_pos c]; rfl, rfl⟩
  · go_enter Try.func26, Try.ntmps26
    go_wp2
    go_ret
    exact ⟨by rw [← HE.out, if_neg (by omega)]; rfl, rfl⟩

/-- the lesser of two ints, as the walk meets it -/
theorem wpList_min2 {w : World} {ops : Array Oper} {rest : List Oper} {o : Oper} {a : Act} {Q : Exit → Act → World → Prop} (hgd : o.guard = none) (x y : Operand)
    (ho : o.op = .call { callee := .builtin .min, args := #[x, y], argTypes := #[3, 3] }) (X Y M : Int) (hx : a.eval x = .int .i64 X) (hy : a.eval y = .int .i64 Y) (hM : (if Y < X then Y else X) = M)
    (h : wpList Try.prog ops Q rest (a.put o.dst (.int .i64 M)) w) : wpList Try.prog ops Q (o :: rest) a w := by
  refine wpList_plain hgd fun K hK => ?_
  have hrun := run_min_int2 (P := Try.prog) w #[3, 3] o.type .i64 .i64 X Y
  rw [hM] at hrun
  unfold Oper.wp
  simp [execOp, ho, resolve, invoke, builtin, hx, hy, hrun, Result.andThen]
  exact hK _ _ h

def sureF (P k : Nat) : List (Nat × List Nat) := [(P, hot k)]
theorem sure_wf {P : Nat} (h : P < 18446744073709551616) (k : Nat) : Wf (sureF P k) := by
  constructor
  · intro i
    match i with
    | 0 => exact h
    | i + 1 => show (0 : Nat) < _; decide
  · intro i j
    match i with
    | 0 =>
      show at0 (hot k) j < _
      by_cases e : j = k
      · rw [e, hot_at]; unfold one; omega
      · rw [hot_no e]; decide
    | i + 1 => show at0 [] j < _; rw [at0_ge (Nat.zero_le _)]; decide

theorem sure_good {P k : Nat} (hk : k ≤ 255) : GoodF (sureF P k) ↔ withinB P 0 4787326403894837248 = true := by
  constructor
  · intro h; exact (h.2.2 0 (by show 0 < 1; omega)).1
  · intro h
    refine ⟨Nat.le_refl _, by show 1 ≤ 16; omega, fun i hi => ?_⟩
    have hi1 : i < 1 := hi
    obtain rfl : i = 0 := by omega
    exact ⟨h, hot_chances hk⟩

/-- whether the price may not be -/
theorem bad_price {P : Nat} (h : P < 18446744073709551616) : withinB P 0 4787326403894837248 = !((FloatKind.f64.format.order P P != some .eq) || (FloatKind.f64.format.order P 0 == some .lt) || (FloatKind.f64.format.order P 4787326403894837248 == some .gt)) := by
  show withinB P 0 4787326403894837248 = !((Ieee.double.order P P != some .eq) || (Ieee.double.order P 0 == some .lt) || (Ieee.double.order P 4787326403894837248 == some .gt))
  have hz := zero_pos.fin
  have hh := two40.1.fin
  unfold withinB
  rcases three P h with f | f | f
  · have hs : (Ieee.double.order P P != some .eq) = false := self_eq f
    rw [hs, cmp_gt f hz, cmp_eq f hz, cmp_lt f hh, cmp_eq f hh, cmp_lt f hz, cmp_gt f hh, Bool.eq_iff_iff]
    simp only [Bool.and_eq_true, Bool.or_eq_true, Bool.not_eq_true', decide_eq_true_eq, Bool.or_eq_false_iff, decide_eq_false_iff_not, Bool.false_or]
    omega
  · have hs : (Ieee.double.order P P != some .eq) = false := self_inf f
    rw [hs, order_inf _ _ f hz, order_inf _ _ f hh]
    cases FloatPlain.neg P <;> rfl
  · rw [order_nan _ _ f, order_nan _ _ f, order_nan _ _ f]; rfl

theorem sure_val {P k s : Nat} (hP : Dear P) (hk : k ≤ 255) : (val0 (sureF P k) s 1).length = s + 1 ∧ ∀ x, x ≤ s → at0 (val0 (sureF P k) s 1) x = brings P (min k x) := by
  refine ⟨val0_len _ _ _, fun x hx => ?_⟩
  have e : val0 (sureF P k) s 1 = nextV P (hot k) (zeros (s + 1)) := rfl
  rw [e, nextV_at0 _ _ _ (by simp [zeros]; omega), hot_len]
  have hb := zeros_bound (s + 1)
  have ok := (next_all hb (Nat.le_refl _) (by omega) hP (hot_likely hk)).1
  have hz : zeros (s + 1) = List.replicate (s + 1) 0 := rfl
  rw [hz, sure_out (fun j hj => ok.bp x j (by omega)), sure_best hP hk]

theorem sure_lim {P k s : Nat} (hP : Dear P) : lims (sureF P k) s = [s] := by
  have e : lims (sureF P k) s = [limGo P (zeros (s + 1)) s] := rfl
  have h : ∀ l, limGo P (zeros (s + 1)) l = l := by
    intro l
    induction l with
    | zero => rfl
    | succ l ih =>
      rw [limGo_yes, ih]
      have hz : zeros (s + 1) = List.replicate (s + 1) 0 := rfl
      rw [hz, at0_rep, at0_rep]
      have h := add_nn hP.1 zero_pos (k := two 40) (by rw [val_zero]; exact hP.2)
      have hp : Pos (fadd P 0) := Nat.lt_of_le_of_lt h.2.1 (two_pos (by omega))
      unfold geB
      rw [cmp_gt hp.fin zero_pos.fin, cmp_eq hp.fin zero_pos.fin, hp.num, zero_pos.num, val_zero]
      simp only [Bool.or_eq_true, decide_eq_true_eq]
      omega
  rw [e, h]

theorem fl_one {w : World} {P : Nat} {cv : Value} {cs : List Nat} (h : Sl w cv (Fb cs)) : Fl (w.alloc (.cells #[.float .f64 P, cv] 48)) (.slice (some ⟨w.heap.size, 0, none⟩) 1 1) [(P, cs)] := by
  have c := World.cell?_alloc_new w #[.float .f64 P, cv] 48
  refine ⟨_, 1, rfl, Nat.le_refl _, by unfold maxLen; omega, (fun h => by cases h), Or.inr ⟨_, 0, rfl, by simp, fun j f hj => ?_⟩⟩
  match j with
  | 0 =>
    obtain rfl : f = (P, cs) := by
      have : some (P, cs) = some f := hj
      injection this with this
      exact this.symm
    exact ⟨cv, c 0, c 1, Sl_alloc h _⟩
  | j + 1 =>
    have : (none : Option (Nat × List Nat)) = some f := hj
    cases this

theorem zeros_set (k : Nat) : (Fb (List.replicate (k + 1) 0)).set k (.float .f64 4607182418800017408) = Fb (hot k) := by rw [Fb_set]; rfl

set_option maxRecDepth 8000 in
set_option maxHeartbeats 4000000 in
theorem faresSure_any (P : Nat) (k0 s0 : Int) (hP : P < 18446744073709551616) (w : World) : Calls Try.prog 6 #[.float .f64 P, .int .i64 k0, .int .i64 s0] w fun e w' => e = .returned (.bool true) ∧ Below w.heap.size w w' := by
  obtain ⟨k, hk⟩ : ∃ k : Nat, k0 % 256 = (k : Int) := Int.eq_ofNat_of_zero_le (Int.emod_nonneg _ (by decide))
  obtain ⟨s, hs⟩ : ∃ s : Nat, s0 % 1025 = (s : Int) := Int.eq_ofNat_of_zero_le (Int.emod_nonneg _ (by decide))
  have hk1 : k ≤ 255 := by have := Int.emod_lt_of_pos k0 (b := 256) (by decide); omega
  have hs1 : s ≤ 1024 := by have := Int.emod_lt_of_pos s0 (b := 1025) (by decide); omega
  have HK := hid hk
  have HS := hid hs
  have HWF := hid (sure_wf hP k)
  have hgood := sure_good (P := P) (k := k) hk1
  rw [bad_price hP] at hgood
  have HPD := hid (fun h => within_dear hP two40 ((bad_price hP).trans h))
  obtain ⟨b1, hb1⟩ : ∃ b, (FloatKind.f64.format.order P P != some .eq) = b := ⟨_, rfl⟩
  obtain ⟨b2, hb2⟩ : ∃ b, (FloatKind.f64.format.order P 0 == some .lt) = b := ⟨_, rfl⟩
  obtain ⟨b3, hb3⟩ : ∃ b, (FloatKind.f64.format.order P 4787326403894837248 == some .gt) = b := ⟨_, rfl⟩
  rw [hb1, hb2, hb3] at hgood
  rw [hb1, hb2, hb3] at HPD
  have HGD := hid hgood
  obtain ⟨i0, hi, hz0, hz1, hz2⟩ := info_parts info33
  have HI := hid hi
  have HZ := hid hz2
  clear hk hs hgood hP hi hz2
  have hw1 : IntKind.i64.wrap ((k : Int) + 1) = (k : Int) + 1 := by rw [IntKind.wrap_i64]; omega
  have hlt1 : (k : Int) < (k : Int) + 1 := by omega
  have hstf := store_run
  go_enter Try.func6, Try.ntmps6
  go_wp2_with fail
  refine (awake_any _).mono ?_
  rintro e w1 ⟨rfl, hb⟩
  have HB1 := hid hb
  clear hb
  go_wp2_with fail
  refine (pick_any _ _ (by decide) (by decide) _).mono ?_
  rintro e w5 ⟨rfl, hw⟩
  obtain rfl := hw
  rw [HK.out]
  go_wp2_with fail
  refine (pick_any _ _ (by decide) (by decide) _).mono ?_
  rintro e w5 ⟨rfl, hw⟩
  obtain rfl := hw
  rw [HS.out]
  go_wp2_with (at_make; refine wpList_make_full _ rfl _ _ 27 rfl w.heap.size 33 i0 (.float .f64 0) 1 Try.underlying27 HI.out hz0 hz1 .i64 .i64 _ _ (k + 1) rfl rfl (by push_cast; rfl) (by push_cast; rfl) (by rw [HZ.out]; omega) (by unfold maxLen; omega) HB1.out.size ?_; intro w2 hown hgrow; rw [zerosF] at hown; have hfr : w2.frozen? ⟨w1.heap.size, k, none⟩ = false := hown.frozenAt k; have hcl : w2.cell? ⟨w1.heap.size, k, none⟩ = some (.float .f64 0) := by (rw [hown.cellAt k (by omega), Fb_get (by simp), at0_rep]))
  have hst := (hown.stored k (.float .f64 4607182418800017408)).1
  rw [zeros_set] at hst
  have hfl := fl_one (P := P) (Sl_of_own hst)
  have hsz : (w2.setCell ⟨w1.heap.size, k, none⟩ (.float .f64 4607182418800017408)).heap.size = w2.heap.size := by simp
  rw [hsz] at hfl
  have hb2 := HB1.out.grown hgrow HB1.out.size (fun k hk => absurd (show (none : Option Nat) = some k from hk) (by simp))
  have hb3 := (hb2.setCell (p := ⟨w1.heap.size, k, none⟩) HB1.out.size (.float .f64 4607182418800017408)).alloc (by rw [hsz]; exact hb2.size) (.cells #[.float .f64 P, .slice (some ⟨w1.heap.size, 0, none⟩) (k + 1) (k + 1)] 48)
  have HFL := hid (show Fl _ _ (sureF P k) from hfl)
  have HB3 := hid hb3
  obtain ⟨w3, hw3⟩ : ∃ w3, (w2.setCell ⟨w1.heap.size, k, none⟩ (.float .f64 4607182418800017408)).alloc (.cells #[.float .f64 P, .slice (some ⟨w1.heap.size, 0, none⟩) (k + 1) (k + 1)] 48) = w3 := ⟨_, rfl⟩
  rw [hw3] at HFL HB3 ⊢
  clear hst hfl hsz hb2 hb3 hw3 hfr hcl hgrow hown
  have hsb : (0 : Int) ≤ (s : Int) ∧ (s : Int) ≤ 1024 := by omega
  by_cases hg : GoodF (sureF P k)
  · have h9 := HGD.out.1 hg
    obtain ⟨rfl, rfl, rfl⟩ : b1 = false ∧ b2 = false ∧ b3 = false := by
      cases b1 <;> cases b2 <;> cases b3 <;> simp at h9 ⊢
    have hD := HPD.out rfl
    have HG := hid hg
    have HD := hid hD
    clear h9 hg hD
    refine (values_any _ _ s _ HFL.out HWF.out HG.out hs1).mono ?_
    rintro e w4 ⟨v4, rfl, ho, hb⟩
    have HB4 := hid (HB3.out.trans (hb.mono HB3.out.size))
    have HFL4 := hid (Fl_below HFL.out hb (Nat.le_refl _))
    have HO4 := hid ho
    clear ho hb
    go_wp2_with fail
    refine (limits_any _ _ s _ HFL4.out HWF.out HG.out hs1).mono ?_
    rintro e w5 ⟨v5, rfl, ho, hb⟩
    have HB5 := hid (HB4.out.trans (hb.mono HB4.out.size))
    have HO5 := hid (own_below HO4.out hb (Nat.le_refl _))
    rw [sure_lim HD.out] at ho
    have HL5 := hid (show w5.ownsRow w4.heap.size 3 1 v5 1 (Ib [s]) from ho)
    obtain ⟨g4, cap4, rfl, hc4, _⟩ := own_some HO5.out (by omega)
    obtain ⟨g5, cap5, rfl, hc5, _⟩ := own_some HL5.out (by omega)
    have hl0 : w5.cell? ⟨g5, 0, none⟩ = some (.int .i64 (s : Int)) := by rw [HL5.out.cellAt 0 (by omega)]; rfl
    have HV := hid (sure_val (s := s) HD.out hk1)
    clear ho hb
    have hw2 : IntKind.i64.wrap ((s : Int) + 1) = (s : Int) + 1 := by rw [IntKind.wrap_i64]; omega
    have hln : ((sureF P k).length : Int) = 1 := rfl
    go_wp2_with fail
    go_loop [13] (fun i => ∃ x : Nat, x ≤ s + 1 ∧ i = .int .i64 x) (fun i => s + 1 - (intOf i).toNat)
    case atStart => exact ⟨0, by omega, rfl⟩
    case round =>
      obtain ⟨x, hx, rfl⟩ := hrel
      by_cases hlt : x ≤ s
      · have hlt' : (x : Int) ≤ (s : Int) := by omega
        have hlt2 : (x : Int) < (s : Int) + 1 := by omega
        obtain ⟨m, hm⟩ : ∃ m, min k x = m := ⟨_, rfl⟩
        have hmi : (if (x : Int) < (k : Int) then (x : Int) else (k : Int)) = (m : Int) := by split <;> omega
        have HMI := hid hmi
        have hq := HO5.out.cellAt x (by omega)
        rw [Fb_get (by rw [val0_len]; omega)] at hq
        have hv := HV.out.2 x hlt
        rw [hm] at hv
        have hq' : w5.cell? ⟨g4, x, none⟩ = some (.float .f64 (brings P m)) := by rw [← hv]; exact hq
        obtain ⟨r1, r2, r3⟩ := brings_is HD.out (u := m) (by omega)
        have hmul := mul_run (mul_price HD.out (k := m) (by omega)).1
        have hcv := conv_int_real (m : Int)
        have hne : (FloatKind.f64.format.order (brings P m) (fmul (intW (m : Int)) P) != some .eq) = false := by
          have h9 := cmp_eq r1.fin r3
          rw [decide_eq_true r2] at h9
          show (!(Ieee.double.order (brings P m) (fmul (intW (m : Int)) P) == some .eq)) = false
          rw [h9]; rfl
        generalize brings P m = B at hq' hne
        generalize fmul (intW (m : Int)) P = R at hmul hne
        generalize intW (m : Int) = I at hmul hcv
        clear hmi hm hq hv r1 r2 r3
        go_wp2_with (refine wpList_min2 rfl _ _ rfl (k : Int) (x : Int) (m : Int) rfl rfl HMI.out ?_)
        go_round
        case rel => exact ⟨x + 1, by omega, by go_num⟩
        case measure => simp [intOf]; omega
      · obtain rfl : x = s + 1 := by omega
        have hgt : (s : Int) < ((s + 1 : Nat) : Int) := by omega
        go_wp2_with fail
        go_ret
        exact ⟨rfl, HB5.out⟩
  · have hne : ¬ ((!(b1 || b2 || b3)) = true) := fun h => hg (HGD.out.2 h)
    have hbb : (b1 || b2 || b3) = true := by
      cases b1 <;> cases b2 <;> cases b3 <;> simp at hne ⊢
    have HE := hid (err_bad (s := (s : Int)) hg)
    have HNG := hid hg
    clear hne hg
    refine (values_no _ _ (s : Int) _ HFL.out HWF.out (fun h => HNG.out h.1)).mono ?_
    rintro e w4 ⟨rfl, hb⟩
    rw [HE.out]
    have HB4 := hid (HB3.out.trans (hb.mono HB3.out.size))
    have HFL4 := hid (Fl_below HFL.out hb (Nat.le_refl _))
    clear hb
    go_wp2_with fail
    refine (limits_no _ _ (s : Int) _ HFL4.out HWF.out (fun h => HNG.out h.1)).mono ?_
    rintro e w5 ⟨rfl, hb⟩
    rw [HE.out]
    have HB5 := hid (HB4.out.trans (hb.mono HB4.out.size))
    clear hb
    cases b1 <;> cases b2 <;> cases b3
    all_goals first
      | (exact absurd hbb (by decide))
      | (go_wp2_with fail
         go_ret
         exact ⟨rfl, HB5.out⟩)
end Go.Proofs.Ytnaogcpcaabbhaa
