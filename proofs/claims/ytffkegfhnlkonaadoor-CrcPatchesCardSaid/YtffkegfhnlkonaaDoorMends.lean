/- The law CrcMends, by its contracts. -/
import Derived.Test.YtffkegfhnlkonaaDoorAwake
import Derived.Test.YtffkegfhnlkonaaDoorMendsPlain
import Derived.RegionTactic
import Derived.Deep.QuietTactic
import Derived.BigQuiet
namespace Go.Proofs.YtffkegfhnlkonaaDoor
open Go.RowKit CrcPlain

theorem J_ne (x y : BitVec 32) : (J x != J y) = !decide (x = y) := by
  by_cases h : x = y
  · subst h; simp
  · have : J x ≠ J y := fun e => h (J_inj e)
    simp [h, this]

theorem same_yes (xs : List (BitVec 8)) (u v : Value) (w : World) (hu : Sl w u (Lb xs)) (hv : Sl w v (Lb xs)) :
    Calls Tryd.prog 22 #[u, v] w fun e w' => e = .returned (.bool true) ∧ ∃ m, w' = w.drewN m := by
  refine (same_any xs xs u v w hu hv).mono ?_
  rintro e w' ⟨rfl, h⟩
  exact ⟨by simp, h⟩

theorem Sl_drewN {w : World} {v : Value} {xs : List Value} (h : Sl w v xs) (n : Nat) : Sl (w.drewN n) v xs := h

/-- a slice's first cells -/
theorem Sl_upto {w : World} {b off n cap p : Nat} {l : List (BitVec 8)} (h : Sl w (.slice (some ⟨b, off, none⟩) n cap) (Lb l)) (h2 : p ≤ n) :
    Sl w (.slice (some ⟨b, off, none⟩) p cap) (Lb (l.take p)) := by
  have := Sl_cut (lo := 0) (hi := p) h (Nat.zero_le _) h2
  simpa [Lb] using this
/-- a slice's last cells -/
theorem Sl_from {w : World} {b off n cap p : Nat} {l : List (BitVec 8)} (h : Sl w (.slice (some ⟨b, off, none⟩) n cap) (Lb l)) (h2 : p ≤ n) :
    Sl w (.slice (some ⟨b, off + p, none⟩) (n - p) (cap - p)) (Lb (l.drop p)) := by
  have := Sl_cut (lo := p) (hi := n) h h2 (Nat.le_refl _)
  have e : (Lb l).take n = Lb l := by
    obtain ⟨_, _, e, _⟩ := h
    cases e
    exact List.take_length
  rw [e] at this
  simpa [Lb] using this
/-- .. at the end of all -/
theorem Sl_end {w : World} {a : Option Addr} {n cap p : Nat} {l : List (BitVec 8)} (h : Sl w (.slice a n cap) (Lb l)) (h2 : p = cap) :
    Sl w (.slice a (n - p) (cap - p)) (Lb (l.drop p)) := by
  obtain ⟨a', c', e, hc, hm, _⟩ := h
  cases e
  have hl := Lb_len l
  have e0 : l.drop p = [] := List.drop_eq_nil_of_le (by omega)
  have e1 : (Lb l).length - p = 0 := by omega
  have e2 : cap - p = 0 := by omega
  rw [e0, e1, e2]
  exact ⟨a, 0, rfl, Nat.le_refl _, Nat.zero_le _, Or.inl ⟨rfl, rfl⟩⟩

theorem Sl_top {w : World} {a : Option Addr} {n c : Nat} {xs : List Value} (h : Sl w (.slice a n c) xs) : c ≤ maxLen := by
  obtain ⟨_, _, e, _, h9, _⟩ := h
  injection e with e1 e2 e3
  subst e3
  exact h9
theorem Sl_void {w : World} {b o c : Nat} (hb : b < w.heap.size) (hc : c ≤ maxLen) : Sl w (.slice (some ⟨b, o, none⟩) 0 c) (Lb []) :=
  ⟨_, c, rfl, Nat.zero_le _, hc, Or.inr ⟨b, o, rfl, hb, fun j u h => by simp [Lb] at h⟩⟩
theorem below_drewN {B : Nat} {a w : World} (h : Below B a w) (n : Nat) : Below B a (w.drewN n) := h.trans ⟨rfl, rfl, rfl, Nat.le_refl _, fun _ _ => rfl⟩

set_option maxHeartbeats 1600000 in
theorem crcMends_any (a1 : Option Addr) (n1 c1 : Nat) (l : List (BitVec 8)) (at_ : Int) (x : BitVec 32) (w : World) (hT : Tab w) (hu : Sl w (.slice a1 n1 c1) (Lb l)) (hl : l.length ≤ 140737488351232) :
    Calls Tryd.prog 9 #[.slice a1 n1 c1, .int .i64 at_, .int .u32 (J x)] w fun e w' => e = .returned (.bool true) ∧ Below w.heap.size w w' := by
  have hn1 : n1 = l.length := by obtain ⟨_, _, h, _⟩ := hu; rw [Lb_len] at h; cases h; rfl
  subst hn1
  have HT := hid hT
  have HU := hid hu
  have HL := hid hl
  have hTs := hT.size
  have HTs := hid hTs
  clear hT hu hTs
  by_cases hbad : at_ < 0 ∨ (l.length : Int) - 4 < at_
  · have HBAD := hid hbad
    clear hbad
    go_enter Tryd.func9, Tryd.ntmps9
    go_wp2_with fail
    refine (awake_any _ HT.out).mono ?_
    rintro e w1 ⟨rfl, hb1⟩
    have HB1 := hid hb1
    clear hb1
    go_wp2_with fail
    refine (copy_any _ l _ (Sl_below HU.out HB1.out (Nat.le_refl _)) (by omega)).mono ?_
    rintro e w2 ⟨v2, rfl, ho2, hb2⟩
    have HO2 := hid ho2
    have HB2 := hid (HB1.out.trans (hb2.mono HB1.out.size))
    clear ho2 hb2
    go_wp2_with fail
    refine (patch_bad _ l at_ (J x) _ (Sl_of_own HO2.out) HBAD.out).mono ?_
    rintro e W3 ⟨rfl, hw⟩
    obtain rfl := hw
    go_wp2_with fail
    all_goals first
      | (exfalso; have h9 := HBAD.out; omega)
      | (go_ret; exact ⟨rfl, HB2.out⟩)
  · obtain ⟨p, rfl⟩ : ∃ p : Nat, at_ = (p : Int) := ⟨at_.toNat, by omega⟩
    have hp : p + 4 ≤ l.length := by omega
    have h1 : ¬ (p : Int) < 0 := by omega
    have h2 : ¬ (l.length : Int) - 4 < (p : Int) := by omega
    have HP := hid hp
    obtain ⟨b, off, rfl⟩ : ∃ b off, a1 = some ⟨b, off, none⟩ := by
      obtain ⟨a, c, e, _, _, h9⟩ := HU.out
      injection e with e1 e2 e3
      subst e1
      rcases h9 with ⟨h9, _⟩ | ⟨b, off, rfl, _⟩
      · have := Lb_len l
        rw [h9] at this
        simp at this
        omega
      · exact ⟨b, off, rfl⟩
    have hc1 : l.length ≤ c1 := by
      obtain ⟨a, c, e, h9, _⟩ := HU.out
      injection e with e1 e2 e3
      subst e3
      rw [Lb_len] at h9
      exact h9
    have q1 := hid (patch_sum x l p)
    have q2 := hid (patch_back x l p hp)
    have q3 := hid (patchTo_take (patchWord x l p) l p hp)
    have q4 := hid (patchTo_drop (patchWord x l p) l p hp)
    have q5 := hid (patchTo_len (patchWord x l p) l p 4 hp)
    obtain ⟨m, hm⟩ : ∃ m, patchTo (patchWord x l p) l p 4 = m := ⟨_, rfl⟩
    rw [hm] at q1 q2 q3 q4 q5
    have HM := hid hm
    clear hbad hm
    by_cases e2 : p + 4 = c1
    all_goals try subst e2
    all_goals
      go_enter Tryd.func9, Tryd.ntmps9
      go_wp2_with fail
      refine (awake_any _ HT.out).mono ?_
      rintro e w1 ⟨rfl, hb1⟩
      have HB1 := hid hb1
      clear hb1
      go_wp2_with fail
      refine (copy_any _ l _ (Sl_below HU.out HB1.out (Nat.le_refl _)) (by omega)).mono ?_
      rintro e w2 ⟨v2, rfl, ho2, hb2⟩
      have HO2 := hid ho2
      have HB2 := hid (HB1.out.trans (hb2.mono HB1.out.size))
      clear ho2 hb2
      go_wp2_with fail
      refine (patch_any _ l p x _ (Sl_of_own HO2.out) (Tab_below HT.out HB2.out HTs.out) (by omega) HP.out).mono ?_
      rintro e w3 ⟨v3, rfl, ho3, hb3⟩
      rw [HM.out] at ho3
      have HO3 := hid ho3
      have HB3 := hid (HB2.out.trans (hb3.mono HB2.out.size))
      clear ho3 hb3
      obtain ⟨g, cap, hv3⟩ : ∃ g cap, v3 = .slice (some ⟨g, 0, none⟩) l.length cap := by
        rcases HO3.out.2 with ⟨_, h3⟩ | ⟨g, cap, cur, hv, _⟩
        · omega
        · exact ⟨g, cap, hv⟩
      subst hv3
      go_wp2_with fail
      refine (sum_any _ m _ (Sl_of_own HO3.out) (Tab_below HT.out HB3.out HTs.out)).mono ?_
      rintro e W4 ⟨rfl, hw⟩
      obtain rfl := hw
      rw [q1.out]
      go_wp2_with fail
      have hcap : l.length ≤ cap := by
        obtain ⟨a, c, e, h9, _⟩ := Sl_of_own HO3.out
        injection e with e1 e2 e3
        subst e3
        have h8 := q5.out
        rw [Lb_len] at h9
        omega
      have t1 : ∀ n, Sl (w3.drewN n) (.slice (some ⟨g, 0, none⟩) p cap) (Lb (l.take p)) := fun n => by
        have := Sl_upto (p := p) (Sl_of_own HO3.out) (by omega)
        rw [q3.out] at this
        exact this
      have t2 := fun n : Nat => Sl_drewN (Sl_upto (p := p) (Sl_below HU.out HB3.out (Nat.le_refl _)) (by omega)) n
      have t3 : ∀ n, Sl (w3.drewN n) (.slice (some ⟨g, p + 4, none⟩) (l.length - (p + 4)) (cap - (p + 4))) (Lb (l.drop (p + 4))) := fun n => by
        have := Sl_from (p := p + 4) (Sl_of_own HO3.out) (by omega)
        rw [q4.out, Nat.zero_add] at this
        exact this
      have t4 := fun n : Nat => Sl_drewN (Sl_from (p := p + 4) (Sl_below HU.out HB3.out (Nat.le_refl _)) (by omega)) n
      have kb : b < w3.heap.size := by
        obtain ⟨a, c, e, _, _, h9⟩ := HU.out
        injection e with e1 e2 e3
        subst e1
        rcases h9 with ⟨h9, _⟩ | ⟨b', off', e, h8, _⟩
        · have := Lb_len l
          rw [h9] at this
          simp at this
          omega
        · cases e; exact Nat.lt_of_lt_of_le h8 HB3.out.size
      have kg : g < w3.heap.size := (HO3.out.lt g rfl).2
      have kc : cap ≤ maxLen := by
        obtain ⟨a, c, e, _, h9, _⟩ := Sl_of_own HO3.out
        injection e with e1 e2 e3
        subst e3
        exact h9
      have kd := Sl_top HU.out
      by_cases e1 : p + 4 = cap
      all_goals try subst e1
      all_goals go_quiet (first
          | (go_at_call 22; exact Calls.quiet_of (same_yes _ _ _ _ (t1 _) (t2 _)))
          | (go_at_call 22; exact Calls.quiet_of (same_yes _ _ _ _ (t3 _) (t4 _)))
          | (go_at_call 22; exact Calls.quiet_of (same_yes [] _ _ _ (Sl_drewN (Sl_void kg (by omega)) _) (Sl_drewN (Sl_void kb (by omega)) _))))
      all_goals try clear e1
      all_goals try clear e2
      all_goals
        go_wp2_with fail
        refine (copy_any _ m _ (Sl_drewN (Sl_of_own HO3.out) _) (by have h9 := q5.out; omega)).mono ?_
        rintro e w4 ⟨v4, rfl, ho4, hb4⟩
        have HO4 := hid ho4
        have HB4 := hid ((below_drewN HB3.out _).trans (hb4.mono HB3.out.size))
        clear ho4 hb4
        go_wp2_with fail
        refine (copy_any _ l _ (Sl_below HU.out HB4.out (Nat.le_refl _)) (by omega)).mono ?_
        rintro e w5 ⟨v5, rfl, ho5, hb5⟩
        have HO5 := hid ho5
        have HO4' := hid (own_below HO4.out hb5 (Nat.le_refl _))
        have HB5 := hid (HB4.out.trans (hb5.mono HB4.out.size))
        clear ho5 hb5
        go_wp2_with fail
        refine (sum_any _ l _ (Sl_of_own HO5.out) (Tab_below HT.out HB5.out HTs.out)).mono ?_
        rintro e W6 ⟨rfl, hw⟩
        obtain rfl := hw
        go_wp2_with fail
        refine (patch_any _ m p _ _ (Sl_of_own HO4'.out) (Tab_below HT.out HB5.out HTs.out) (by have h9 := q5.out; omega) (by have h9 := q5.out; omega)).mono ?_
        rintro e w6 ⟨v6, rfl, ho6, hb6⟩
        rw [q2.out] at ho6
        have HO6 := hid ho6
        have HB6 := hid (HB5.out.trans (hb6.mono HB5.out.size))
        clear ho6 hb6
        go_wp2_with fail
        refine (same_yes l _ _ _ (Sl_of_own HO6.out) (Sl_below HU.out HB6.out (Nat.le_refl _))).mono ?_
        rintro e w7 ⟨rfl, nq7, rfl⟩
        have HB7 := hid (below_drewN HB6.out nq7)
        go_wp2_with fail
        go_ret
        exact ⟨rfl, HB7.out⟩
end Go.Proofs.YtffkegfhnlkonaaDoor
