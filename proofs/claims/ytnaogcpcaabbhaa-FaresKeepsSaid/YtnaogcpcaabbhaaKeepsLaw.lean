/- The law FaresKeeps. -/
import Derived.Test.YtnaogcpcaabbhaaApartBR
import Derived.Test.YtnaogcpcaabbhaaApartBI
import Derived.Test.YtnaogcpcaabbhaaAwake
import Derived.Test.YtnaogcpcaabbhaaCopy
namespace Go.Proofs.Ytnaogcpcaabbhaa
open Go.RowKit FloatPlain

theorem keeps_all (fs : List (Nat × List Nat)) (s : Int) (hwf : Wf fs) : ∃ (V L : List Nat) (e0 : Int), V.length ≤ 1025 ∧ L.length ≤ 16 ∧
    (∀ v w, Fl w v fs → Calls Try.prog 12 #[v, .int .i64 s] w fun e w' => ∃ a c, e = .returned (.tuple #[.slice a V.length c, .int .i64 e0]) ∧ w'.ownsRow w.heap.size 33 1 (.slice a V.length c) V.length (Fb V) ∧ Below w.heap.size w w') ∧
    (∀ v w, Fl w v fs → Calls Try.prog 13 #[v, .int .i64 s] w fun e w' => ∃ a c, e = .returned (.tuple #[.slice a L.length c, .int .i64 e0]) ∧ w'.ownsRow w.heap.size 3 1 (.slice a L.length c) L.length (Ib L) ∧ Below w.heap.size w w') := by
  by_cases h : GoodF fs ∧ 0 ≤ s ∧ s ≤ 1024
  · obtain ⟨hg, h0, h1⟩ := h
    obtain ⟨n, rfl⟩ := Int.eq_ofNat_of_zero_le h0
    have hn : n ≤ 1024 := by omega
    refine ⟨val0 fs n fs.length, lims fs n, 0, by rw [val0_len]; omega, by rw [lims_len]; exact hg.2.1, fun v w hv => ?_, fun v w hv => ?_⟩
    · refine (values_any v fs n w hv hwf hg hn).mono fun e w' ⟨u, a, b, c⟩ => ?_
      obtain ⟨a0, c0, rfl, _, _⟩ := own_form b
      rw [val0_len]
      exact ⟨a0, c0, a, b, c⟩
    · refine (limits_any v fs n w hv hwf hg hn).mono fun e w' ⟨u, a, b, c⟩ => ?_
      obtain ⟨a0, c0, rfl, _, _⟩ := own_form b
      rw [lims_len]
      exact ⟨a0, c0, a, b, c⟩
  · refine ⟨[], [], err fs s, by simp, by simp, fun v w hv => ?_, fun v w hv => ?_⟩
    · exact (values_no v fs s w hv hwf h).mono fun e w' ⟨a, c⟩ => ⟨none, 0, a, World.ownsRow_nil _ _ _ _, c⟩
    · exact (limits_no v fs s w hv hwf h).mono fun e w' ⟨a, c⟩ => ⟨none, 0, a, World.ownsRow_nil _ _ _ _, c⟩

theorem two_new (w : World) (x0 x1 : Value) (t : TypeId) : ∀ j u, [x0, x1][j]? = some u → (w.alloc (.cells #[x0, x1] t)).cell? ⟨w.heap.size, j, none⟩ = some u := by
  intro j u h
  rw [World.cell?_alloc_at _ _ _ _ rfl]
  simpa using h

set_option maxRecDepth 8000 in
set_option maxHeartbeats 4000000 in
theorem faresKeeps_any (v : Value) (fs : List (Nat × List Nat)) (s : Int) (w : World) (hv : Fl w v fs) (hwf : Wf fs) (hl : fs.length * 32 ≤ 140737488351232) (hc8 : ∀ k, (csA fs k).length * 8 ≤ 140737488351232) :
    Calls Try.prog 8 #[v, .int .i64 s] w fun e w' => e = .returned (.bool true) ∧ Below w.heap.size w w' := by
  obtain ⟨V, L, e0, hV, hL, T1, T2⟩ := keeps_all fs s hwf
  have HT1 := hid T1
  have HT2 := hid T2
  have HV := hid hv
  have HVL := hid hV
  have HLL := hid hL
  have HC8 := hid hc8
  have HL := hid hl
  clear T1 T2 hv hwf hl hc8 hV hL
  go_enter Try.func8, Try.ntmps8
  go_wp2_with fail
  refine (awake_any _).mono ?_
  rintro e w1 ⟨rfl, hb⟩
  have HB1 := hid hb
  clear hb
  go_wp2_with fail
  refine (copyFares_any _ fs _ (Fl_below HV.out HB1.out (Nat.le_refl _)) HL.out HC8.out).mono ?_
  rintro e w2 ⟨v2, rfl, hf, hb⟩
  have HF2 := hid hf
  have HB2 := hid (HB1.out.trans (hb.mono HB1.out.size))
  clear hf hb
  go_wp2_with fail
  refine (HT1.out _ _ HF2.out).mono ?_
  rintro e w3 ⟨aa, ca, rfl, ho, hb⟩
  have HA3 := hid ho
  have HB3 := hid hb
  clear ho hb
  go_wp2_with fail
  refine (HT1.out _ _ (Fl_below HF2.out HB3.out (Nat.le_refl _))).mono ?_
  rintro e w4 ⟨ab, cb, rfl, ho, hb⟩
  have HBo4 := hid ho
  have HA4 := hid (own_below HA3.out hb (Nat.le_refl _))
  have HFab := hid (show Far (.slice aa V.length ca) (.slice ab V.length cb) from fun k h1 h2 => by
    have e1 := (HA3.out.lt k h1).2
    have e2 := (ho.lt k h2).1
    omega)
  have HB4 := hid (HB3.out.trans (hb.mono HB3.out.size))
  have HS34 := hid (show w3.heap.size ≤ w4.heap.size from hb.size)
  clear ho hb
  go_wp2_with fail
  refine (HT2.out _ _ (Fl_below HF2.out HB4.out (Nat.le_refl _))).mono ?_
  rintro e w5 ⟨ac, cc, rfl, ho, hb⟩
  have HC5 := hid ho
  have HA5 := hid (own_below HA4.out hb (Nat.le_refl _))
  have HBo5 := hid (own_below HBo4.out hb (Nat.le_refl _))
  have HB5 := hid (HB4.out.trans (hb.mono HB4.out.size))
  have HS45 := hid (show w4.heap.size ≤ w5.heap.size from hb.size)
  clear ho hb
  go_wp2_with fail
  refine (HT2.out _ _ (Fl_below HF2.out HB5.out (Nat.le_refl _))).mono ?_
  rintro e w6 ⟨ad, cd, rfl, ho, hb⟩
  have HD6 := hid ho
  have HC6 := hid (own_below HC5.out hb (Nat.le_refl _))
  have HA6 := hid (own_below HA5.out hb (Nat.le_refl _))
  have HBo6 := hid (own_below HBo5.out hb (Nat.le_refl _))
  have HFcd := hid (show Far (.slice ac L.length cc) (.slice ad L.length cd) from fun k h1 h2 => by
    have e1 := (HC5.out.lt k h1).2
    have e2 := (ho.lt k h2).1
    omega)
  have HB6 := hid (HB5.out.trans (hb.mono HB5.out.size))
  have HS56 := hid (show w5.heap.size ≤ w6.heap.size from hb.size)
  clear ho hb
  go_wp2_with fail
  refine (same_any _ _ V _ (Sl_of_own HA6.out) (Sl_of_own HBo6.out) (by have := HVL.out; omega)).mono ?_
  rintro e w7 ⟨rfl, hb⟩
  have HA7 := hid (own_below HA6.out hb (Nat.le_refl _))
  have HBo7 := hid (own_below HBo6.out hb (Nat.le_refl _))
  have HC7 := hid (own_below HC6.out hb (Nat.le_refl _))
  have HD7 := hid (own_below HD6.out hb (Nat.le_refl _))
  have HS67 := hid (show w6.heap.size ≤ w7.heap.size from hb.size)
  have HB7 := hid (HB6.out.trans (hb.mono HB6.out.size))
  clear hb
  go_wp2_with fail
  refine (sameInts_any _ _ L _ (Sl_of_own HC7.out) (Sl_of_own HD7.out) (by have := HLL.out; omega)).mono ?_
  rintro e w8 ⟨rfl, hb⟩
  have HA8 := hid (own_below HA7.out hb (Nat.le_refl _))
  have HBo8 := hid (own_below HBo7.out hb (Nat.le_refl _))
  have HC8' := hid (own_below HC7.out hb (Nat.le_refl _))
  have HD8 := hid (own_below HD7.out hb (Nat.le_refl _))
  have HS68 := hid (show w6.heap.size ≤ w8.heap.size from Nat.le_trans HS67.out hb.size)
  have HB8 := hid (HB7.out.trans (hb.mono HB7.out.size))
  clear hb
  go_wp2_with fail
  refine (copyReals_any _ V _ (Sl_of_own HA8.out) (by have := HVL.out; omega)).mono ?_
  rintro e w9 ⟨vw, rfl, ho, hb⟩
  obtain ⟨aw, cw, rfl, _, _⟩ := own_form ho
  have HW9 := hid ho
  have HA9 := hid (own_below HA8.out hb (Nat.le_refl _))
  have HBo9 := hid (own_below HBo8.out hb (Nat.le_refl _))
  have HC9 := hid (own_below HC8'.out hb (Nat.le_refl _))
  have HD9 := hid (own_below HD8.out hb (Nat.le_refl _))
  have HB9 := hid (HB8.out.trans (hb.mono HB8.out.size))
  clear ho hb
  go_wp2_with fail
  have hcells := two_new w9 (.slice aa V.length ca) (.slice ab V.length cb) 27
  refine (R.apart_any w2.heap.size w9.heap.size 2 (fun k => if k = 0 then aa else ab) (fun _ => V.length) (fun k => if k = 0 then ca else cb) (fun _ => V) _ ?_ HFab.out (fun k hk => Nat.le_trans HVL.out (by decide)) ?_ ?_).mono ?_
  · intro k hk
    rcases (show k = 0 ∨ k = 1 by omega) with rfl | rfl
    · exact HA9.out.alloc _
    · exact (own_mono HBo9.out HB3.out.size).alloc _
  · intro k hk
    rcases (show k = 0 ∨ k = 1 by omega) with rfl | rfl
    · exact hcells 0 _ rfl
    · exact hcells 1 _ rfl
  · have := HB9.out.size
    simp; omega
  clear hcells
  rintro e wa ⟨rfl, hb, hp⟩
  have keep : ∀ {base e n v xs}, w9.ownsRow base e 1 v n xs → (∀ k, v.ownBlock = some k → (Value.slice aa V.length ca).ownBlock ≠ some k ∧ (Value.slice ab V.length cb).ownBlock ≠ some k) → wa.ownsRow base e 1 v n xs := by
    intro base e n v xs h hne
    refine own_block (h.alloc (.cells #[.slice aa V.length ca, .slice ab V.length cb] 27)) (fun k hk => hp k (own_lt (h.alloc _) hk) (fun j hj e => ?_))
    obtain ⟨n1, n2⟩ := hne k hk
    rcases (show j = 0 ∨ j = 1 by omega) with rfl | rfl
    · exact n1 e
    · exact n2 e
  have sz3 := HB3.out.size
  have HSZ34 := HS34.out
  have HSZ45 := HS45.out
  have HSZ56 := HS56.out
  have lt_a : ∀ k, (Value.slice aa V.length ca).ownBlock = some k → k < w4.heap.size := fun k h => by have := (HA3.out.lt k h).2; omega
  have lt_b : ∀ k, (Value.slice ab V.length cb).ownBlock = some k → k < w4.heap.size := fun k h => (HBo4.out.lt k h).2
  have s68 : w4.heap.size ≤ w8.heap.size := Nat.le_trans HSZ45 (Nat.le_trans HSZ56 HS68.out)
  have HWa := hid (keep HW9.out (fun k hk => by
    have h1 := (HW9.out.lt k hk).1
    exact ⟨fun e => by have := lt_a k e; omega, fun e => by have := lt_b k e; omega⟩))
  have HCa := hid (keep HC9.out (fun k hk => by
    have h1 := (HC9.out.lt k hk).1
    exact ⟨fun e => by have := lt_a k e; omega, fun e => by have := lt_b k e; omega⟩))
  have HDa := hid (keep HD9.out (fun k hk => by
    have h1 := (HD9.out.lt k hk).1
    exact ⟨fun e => by have := lt_a k e; omega, fun e => by have := lt_b k e; omega⟩))
  have HBa := hid ((HB9.out.alloc HB9.out.size (.cells #[.slice aa V.length ca, .slice ab V.length cb] 27)).trans hb)
  clear keep hb hp lt_a lt_b sz3
  go_wp2_with fail
  have hcells := two_new wa (.slice ac L.length cc) (.slice ad L.length cd) 30
  refine (I.apart_any w2.heap.size wa.heap.size 2 (fun k => if k = 0 then ac else ad) (fun _ => L.length) (fun k => if k = 0 then cc else cd) (fun _ => L) _ ?_ HFcd.out (fun k hk => Nat.le_trans HLL.out (by decide)) ?_ ?_).mono ?_
  · intro k hk
    rcases (show k = 0 ∨ k = 1 by omega) with rfl | rfl
    · exact (own_mono HCa.out HB4.out.size).alloc _
    · exact (own_mono HDa.out HB5.out.size).alloc _
  · intro k hk
    rcases (show k = 0 ∨ k = 1 by omega) with rfl | rfl
    · exact hcells 0 _ rfl
    · exact hcells 1 _ rfl
  · have := HBa.out.size
    simp; omega
  clear hcells
  rintro e wb ⟨rfl, hb, hp⟩
  have hwb : wb.ownsRow w8.heap.size 33 1 (.slice aw V.length cw) V.length (Fb V) := by
    refine own_block (HWa.out.alloc (.cells #[.slice ac L.length cc, .slice ad L.length cd] 30)) (fun k hk => hp k (own_lt (HWa.out.alloc _) hk) (fun j hj e => ?_))
    have h1 := (HW9.out.lt k hk).1
    have h68 := HS68.out
    rcases (show j = 0 ∨ j = 1 by omega) with rfl | rfl
    · have := (HC5.out.lt k e).2; omega
    · have := (HD6.out.lt k e).2; omega
  have HWb := hid hwb
  have HBb := hid ((HBa.out.alloc HBa.out.size (.cells #[.slice ac L.length cc, .slice ad L.length cd] 30)).trans hb)
  clear hb hp hwb
  go_wp2_with fail
  refine (HT1.out _ _ (Fl_below HF2.out HBb.out (Nat.le_refl _))).mono ?_
  rintro e wc ⟨ax, cx, rfl, ho, hb⟩
  have HXc := hid ho
  have HWc := hid (own_below HWb.out hb (Nat.le_refl _))
  have HBc := hid (HBb.out.trans (hb.mono HBb.out.size))
  clear ho hb
  go_wp2_with fail
  refine (same_any _ _ V _ (Sl_of_own HXc.out) (Sl_of_own HWc.out) (by have := HVL.out; omega)).mono ?_
  rintro e wd ⟨rfl, hb⟩
  have HBd := hid (HB2.out.trans ((HBc.out.trans (hb.mono HBc.out.size)).mono HB2.out.size))
  clear hb
  go_wp2_with fail
  go_ret
  exact ⟨rfl, HBd.out⟩
end Go.Proofs.Ytnaogcpcaabbhaa
