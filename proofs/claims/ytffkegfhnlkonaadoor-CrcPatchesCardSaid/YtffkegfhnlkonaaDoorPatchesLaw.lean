/- The law CrcPatches, by its contracts. -/
import Derived.Test.YtffkegfhnlkonaaDoorSumsLaw
import Derived.Test.YtffkegfhnlkonaaDoorApartB
import Derived.Test.YtffkegfhnlkonaaDoorOver
import Derived.Test.YtffkegfhnlkonaaDoorRefPatch
namespace Go.Proofs.YtffkegfhnlkonaaDoor
open Go.RowKit CrcPlain

/-- what both answer, of a row, a place and a sum -/
theorem patch_all (l : List (BitVec 8)) (at_ : Int) (want : BitVec 32) (hl : l.length ≤ 140737488351232) : ∃ (m : List (BitVec 8)) (e0 : Int), m.length ≤ 140737488351232 ∧
    (∀ v w, Sl w v (Lb l) → Tab w → Calls Tryd.prog 20 #[v, .int .i64 at_, .int .u32 (J want)] w fun e w' => ∃ a c, e = .returned (.tuple #[.slice a m.length c, .int .i64 e0]) ∧ w'.ownsRow w.heap.size 5 1 (.slice a m.length c) m.length (Lb m) ∧ Below w.heap.size w w') ∧
    (∀ v w, Sl w v (Lb l) → Calls Tryd.prog 21 #[v, .int .i64 at_, .int .u32 (J want)] w fun e w' => ∃ a c, e = .returned (.tuple #[.slice a m.length c, .int .i64 e0]) ∧ w'.ownsRow w.heap.size 5 1 (.slice a m.length c) m.length (Lb m) ∧ Below w.heap.size w w') := by
  by_cases hbad : at_ < 0 ∨ (l.length : Int) - 4 < at_
  · refine ⟨[], 2, by simp, fun v w hv _ => ?_, fun v w hv => ?_⟩
    · refine (patch_bad v l at_ (J want) w hv hbad).mono ?_
      rintro e w' ⟨rfl, rfl⟩
      exact ⟨none, 0, rfl, World.ownsRow_nil _ _ _ _, Below.refl _ _⟩
    · refine (refPatch_bad v l at_ (J want) w hv hbad).mono ?_
      rintro e w' ⟨rfl, rfl⟩
      exact ⟨none, 0, rfl, World.ownsRow_nil _ _ _ _, Below.refl _ _⟩
  · obtain ⟨p, rfl⟩ : ∃ p : Nat, at_ = (p : Int) := ⟨at_.toNat, by omega⟩
    have hp : p + 4 ≤ l.length := by omega
    have hlen := patchTo_len (patchWord want l p) l p 4 hp
    refine ⟨patchTo (patchWord want l p) l p 4, 0, by omega, fun v w hv hT => ?_, fun v w hv => ?_⟩
    · refine (patch_any v l p want w hv hT (by omega) hp).mono ?_
      rintro e w' ⟨v', rfl, ho, hb⟩
      rw [← hlen] at ho
      obtain ⟨a, c, rfl, _, _⟩ := own_form ho
      exact ⟨a, c, rfl, ho, hb⟩
    · refine (refPatch_any v l p want w hv hl hp).mono ?_
      rintro e w' ⟨v', rfl, ho, hb⟩
      rw [← hlen] at ho
      obtain ⟨a, c, rfl, _, _⟩ := own_form ho
      exact ⟨a, c, rfl, ho, hb⟩

theorem two_new (w : World) (x0 x1 : Value) (t : TypeId) : ∀ j u, [x0, x1][j]? = some u → (w.alloc (.cells #[x0, x1] t)).cell? ⟨w.heap.size, j, none⟩ = some u := by
  intro j u h
  rw [World.cell?_alloc_at _ _ _ _ rfl]
  simpa using h

set_option maxRecDepth 8000 in
set_option maxHeartbeats 4000000 in
theorem crcPatches_any (a1 : Option Addr) (n1 c1 : Nat) (l : List (BitVec 8)) (at_ : Int) (x : BitVec 32) (w : World) (hT : Tab w) (hu : Sl w (.slice a1 n1 c1) (Lb l)) (hl : l.length ≤ 140737488351232) :
    Calls Tryd.prog 5 #[.slice a1 n1 c1, .int .i64 at_, .int .u32 (J x)] w fun e w' => e = .returned (.bool true) ∧ Below w.heap.size w w' := by
  have hn1 : l.length = n1 := by obtain ⟨_, _, h, _⟩ := hu; rw [Lb_len] at h; cases h; rfl
  have HT := hid hT
  have HTs := hid hT.size
  have H1 := hid hu
  have HL := hid hl
  have HN1 := hid hn1
  obtain ⟨m, e0, hm, hp, hr⟩ := patch_all l at_ x hl
  have HM := hid hm
  have HP := hid hp
  have HR := hid hr
  clear hT hu hl hn1 hm hp hr
  go_enter Tryd.func5, Tryd.ntmps5
  go_wp2_with fail
  refine (lent_any _ l _ H1.out (by have := HL.out; omega)).mono ?_
  rintro e w1 ⟨rfl, hb1, ho1⟩
  rw [HN1.out] at ho1 ⊢
  have HB1 := hid hb1
  have HO1 := hid ho1
  have HT1 := hid (Tab_below HT.out hb1 HTs.out)
  have HS1 := hid (lent_sl ho1 HN1.out)
  clear hb1 ho1
  go_wp2_with fail
  refine (HP.out _ _ HS1.out HT1.out).mono ?_
  rintro e w2 ⟨ax, cx, rfl, ho, hb⟩
  have HB2 := hid hb
  have HX2 := hid ho
  have HT2 := hid (Tab_below HT1.out hb (Nat.lt_of_lt_of_le HTs.out HB1.out.size))
  have HS2 := hid (Sl_below HS1.out hb (Nat.le_refl _))
  clear ho hb
  go_wp2_with fail
  refine (HP.out _ _ HS2.out HT2.out).mono ?_
  rintro e w3 ⟨ay, cy, rfl, ho, hb⟩
  have HB3 := hid hb
  have HY3 := hid ho
  have HX3 := hid (own_below HX2.out hb (Nat.le_refl _))
  have HF := hid (show Far (.slice ax m.length cx) (.slice ay m.length cy) from fun k h1 h2 => by
    have e1 := (HX2.out.lt k h1).2
    have e2 := (ho.lt k h2).1
    omega)
  have HBx3 := hid (HB1.out.trans ((HB2.out.trans (hb.mono HB2.out.size)).mono HB1.out.size))
  clear ho hb
  go_wp2_with fail
  refine (HR.out _ _ (Sl_below H1.out HBx3.out (Nat.le_refl _))).mono ?_
  rintro e w4 ⟨az, cz, rfl, ho, hb⟩
  have HZ4 := hid ho
  have HX4 := hid (own_below HX3.out hb (Nat.le_refl _))
  have HY4 := hid (own_below HY3.out hb (Nat.le_refl _))
  have HB4 := hid (HBx3.out.trans (hb.mono HBx3.out.size))
  have HS4 : Hid (w3.heap.size ≤ w4.heap.size) := hid hb.size
  have HO4 := hid (own_below (own_below (own_below HO1.out HB2.out (Nat.le_refl _)) HB3.out (Nat.le_refl _)) hb (Nat.le_refl _))
  clear ho hb
  go_wp2_with fail
  refine (same_yes m _ _ _ (Sl_of_own HX4.out) (Sl_of_own HZ4.out)).mono ?_
  rintro e w5 ⟨rfl, nq5, rfl⟩
  go_wp2_with fail
  refine (same_yes m _ _ _ (Sl_drewN (Sl_of_own HY4.out) _) (Sl_drewN (Sl_of_own HZ4.out) _)).mono ?_
  rintro e w5 ⟨rfl, nq6, rfl⟩
  go_wp2_with fail
  have HBd := hid (below_drewN HB4.out (nq5 + nq6))
  have hk := kept_any w.heap.size (.slice a1 n1 c1) l (w4.drewN (nq5 + nq6)) (by have := HL.out; omega) (by rw [HN1.out]; exact Sl_drewN (Sl_of_own HO4.out) _) (Sl_below H1.out HBd.out (Nat.le_refl _))
  rw [HN1.out] at hk
  refine hk.mono ?_
  clear hk
  rintro e w5 ⟨rfl, hb⟩
  have HX5 := hid (own_below (w := w4.drewN (nq5 + nq6)) (own_block HX4.out (fun _ _ => rfl)) hb (Nat.le_refl _))
  have HY5 := hid (own_below (w := w4.drewN (nq5 + nq6)) (own_block HY4.out (fun _ _ => rfl)) hb (Nat.le_refl _))
  have HZ5 := hid (own_below (w := w4.drewN (nq5 + nq6)) (own_block HZ4.out (fun _ _ => rfl)) hb (Nat.le_refl _))
  have HO5 := hid (own_below (w := w4.drewN (nq5 + nq6)) (own_block HO4.out (fun _ _ => rfl)) hb (Nat.le_refl _))
  have HB5 := hid (HBd.out.trans (hb.mono HBd.out.size))
  have HS5 : Hid (w4.heap.size ≤ w5.heap.size) := hid hb.size
  clear hb
  go_wp2_with fail
  refine (over_any w.heap.size w.heap.size n1 (l ++ marks 12) _ (by have := HL.out; have := HN1.out; omega) HO5.out).mono ?_
  rintro e w6 ⟨rfl, hb, hq⟩
  have HX6 := hid (own_block HX5.out (fun k hk => hq k (by have h1 := (HX5.out.lt k hk).1; have := HB1.out.size; have := (HO1.out.lt w.heap.size rfl).2; omega)))
  have HY6 := hid (own_block HY5.out (fun k hk => hq k (by have h1 := (HY5.out.lt k hk).1; have := HB2.out.size; have := (HO1.out.lt w.heap.size rfl).2; omega)))
  have HZ6 := hid (own_block HZ5.out (fun k hk => hq k (by have h1 := (HZ5.out.lt k hk).1; have := HB2.out.size; have := HB3.out.size; have := (HO1.out.lt w.heap.size rfl).2; omega)))
  have HB6 := hid (HB5.out.trans hb)
  have HSZ6 : Hid (w1.heap.size ≤ w6.heap.size) := hid (Nat.le_trans (Nat.le_trans HB2.out.size HB3.out.size) (Nat.le_trans HS4.out (Nat.le_trans HS5.out hb.size)))
  clear hb hq
  go_wp2_with fail
  refine (same_yes m _ _ _ (Sl_of_own HY6.out) (Sl_of_own HZ6.out)).mono ?_
  rintro e w7 ⟨rfl, nq7, rfl⟩
  go_wp2_with fail
  have hcells := two_new (w6.drewN nq7) (.slice ax m.length cx) (.slice ay m.length cy) 23
  have hsz := HSZ6.out
  refine (apart_any w1.heap.size w6.heap.size 2 (fun k => if k = 0 then ax else ay) (fun _ => m.length) (fun k => if k = 0 then cx else cy) (fun _ => m) _ ?_ HF.out (fun k hk => Nat.le_trans HM.out (by decide)) ?_ ?_).mono ?_
  · intro k hk
    rcases (show k = 0 ∨ k = 1 by omega) with rfl | rfl
    · exact (own_block (w' := w6.drewN nq7) HX6.out (fun _ _ => rfl)).alloc _
    · exact (own_mono (own_block (w' := w6.drewN nq7) HY6.out (fun _ _ => rfl)) HB2.out.size).alloc _
  · intro k hk
    rcases (show k = 0 ∨ k = 1 by omega) with rfl | rfl
    · exact hcells 0 _ rfl
    · exact hcells 1 _ rfl
  · simp; omega
  rintro e w8 ⟨rfl, hb⟩
  have HB8 := hid (((below_drewN HB6.out nq7).alloc HB6.out.size _).trans (hb.mono HB1.out.size))
  clear hb hcells
  go_wp2_with fail
  refine (awake_any _ (Tab_below HT.out HB8.out HTs.out)).mono ?_
  rintro e w9 ⟨rfl, hb⟩
  have HB9 := hid (HB8.out.trans (hb.mono HB8.out.size))
  clear hb
  go_wp2_with fail
  go_ret
  exact ⟨rfl, HB9.out⟩
end Go.Proofs.YtffkegfhnlkonaaDoor
