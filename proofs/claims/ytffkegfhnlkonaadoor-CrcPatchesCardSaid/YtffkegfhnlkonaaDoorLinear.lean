/- The law CrcLinear, by its contracts. -/
import Derived.Test.YtffkegfhnlkonaaDoorMends
import Derived.Test.YtffkegfhnlkonaaDoorLinearPlain
import Derived.RegionTactic
import Derived.Deep.RegionHeld3
namespace Go.Proofs.YtffkegfhnlkonaaDoor
open Go.RowKit CrcPlain

theorem K_xor (x y : BitVec 8) : bits .xor .u8 (K x) (K y) = K (x ^^^ y) := by
  unfold K
  rw [u8_xor_nat _ _ (by have := x.isLt; omega) (by have := y.isLt; omega), BitVec.toNat_xor]

/-- a cell of a slice that has a k-th cell -/
theorem Sl_cell {w : World} {a : Option Addr} {n c k : Nat} {l : List (BitVec 8)} (h : Sl w (.slice a n c) (Lb l)) (hk : k < l.length) :
    ∃ b off, a = some ⟨b, off, none⟩ ∧ b < w.heap.size ∧ w.cell? ⟨b, off + k, none⟩ = some (.int .u8 (K l[k])) := by
  obtain ⟨a', c', e, _, _, h9⟩ := h
  injection e with e1 e2 e3
  subst e1
  rcases h9 with ⟨h9, _⟩ | ⟨b, off, rfl, hb, hcell⟩
  · have := Lb_len l
    rw [h9] at this
    simp at this
    omega
  · exact ⟨b, off, rfl, hb, hcell k _ (Lb_get hk)⟩

/-- a slice's first cells, at whatever address -/
theorem Sl_first {w : World} {a : Option Addr} {n cap p : Nat} {l : List (BitVec 8)} (h : Sl w (.slice a n cap) (Lb l)) (h2 : p ≤ n) :
    Sl w (.slice a p cap) (Lb (l.take p)) := by
  obtain ⟨a', c', e, hc, hm, h9⟩ := h
  rw [Lb_len] at e hc
  injection e with e1 e2 e3
  subst e1 e2 e3
  have hl : (Lb (l.take p)).length = p := by rw [Lb_len]; simp; omega
  refine ⟨a, cap, by rw [hl], by omega, hm, ?_⟩
  rcases h9 with ⟨h9, h0⟩ | ⟨b, off, rfl, hb, hcell⟩
  · refine Or.inl ⟨List.eq_nil_of_length_eq_zero ?_, h0⟩
    rw [hl]
    have := Lb_len l
    rw [h9] at this
    simp at this
    omega
  · refine Or.inr ⟨b, off, rfl, hb, fun j u hj => hcell j u ?_⟩
    have e : Lb (l.take p) = (Lb l).take p := by simp [Lb]
    rw [e, List.getElem?_take] at hj
    split at hj
    · exact hj
    · cases hj

theorem Sl_room {w : World} {a : Option Addr} {n c : Nat} {l : List (BitVec 8)} (h : Sl w (.slice a n c) (Lb l)) : l.length ≤ c := by
  obtain ⟨_, _, e, h9, _⟩ := h
  rw [Lb_len] at e h9
  injection e with e1 e2 e3
  omega

set_option maxRecDepth 8000 in
set_option maxHeartbeats 1600000 in
theorem crcLinear_any (a1 a2 a3 : Option Addr) (n1 n2 n3 c1 c2 c3 : Nat) (l1 l2 l3 : List (BitVec 8)) (w : World) (hT : Tab w) (h1 : Sl w (.slice a1 n1 c1) (Lb l1)) (h2 : Sl w (.slice a2 n2 c2) (Lb l2)) (h3 : Sl w (.slice a3 n3 c3) (Lb l3))
    (hl1 : l1.length ≤ 140737488351232) (hl2 : l2.length ≤ 140737488351232) (hl3 : l3.length ≤ 140737488351232) :
    Calls Tryd.prog 10 #[.slice a1 n1 c1, .slice a2 n2 c2, .slice a3 n3 c3] w fun e w' => e = .returned (.bool true) ∧ Below w.heap.size w w' := by
  have hn1 : n1 = l1.length := by obtain ⟨_, _, h, _⟩ := h1; rw [Lb_len] at h; cases h; rfl
  have hn2 : n2 = l2.length := by obtain ⟨_, _, h, _⟩ := h2; rw [Lb_len] at h; cases h; rfl
  have hn3 : n3 = l3.length := by obtain ⟨_, _, h, _⟩ := h3; rw [Lb_len] at h; cases h; rfl
  subst hn1 hn2 hn3
  have HT := hid hT
  have HTs := hid hT.size
  have H1 := hid h1
  have H2 := hid h2
  have H3 := hid h3
  clear hT h1 h2 h3
  obtain ⟨n, hmin, k1, k2, k3⟩ : ∃ n : Nat, (if (l3.length : Int) < (if l2.length < l1.length then (l2.length : Int) else (l1.length : Int)) then (l3.length : Int) else if l2.length < l1.length then (l2.length : Int) else (l1.length : Int)) = (n : Int) ∧ n ≤ l1.length ∧ n ≤ l2.length ∧ n ≤ l3.length := by
    refine ⟨min l3.length (min l2.length l1.length), ?_, by omega, by omega, by omega⟩
    split <;> split <;> omega
  go_enter Tryd.func10, Tryd.ntmps10
  go_wp2_with fail
  refine (awake_any _ HT.out).mono ?_
  rintro e w1 ⟨rfl, hb1⟩
  have HB1 := hid hb1
  clear hb1
  obtain ⟨i0, hi, hz0, hz1, hz2⟩ := info_parts info5
  have HI := hid hi
  have HZ := hid hz2
  clear hi hz2
  go_wp2_with (at_make; refine wpList_make_full _ rfl _ _ 23 rfl w.heap.size 5 i0 (.int .u8 0) 1 Tryd.underlying23 HI.out hz0 hz1 .i64 .i64 n n n rfl rfl rfl rfl (by rw [HZ.out]; omega) (by unfold maxLen; omega) HB1.out.size ?_; intro w2 hown hgrow)
  have hx := xor3_len k1 k2 k3
  obtain ⟨X, hX⟩ : ∃ X, xor3 l1 l2 l3 n = X := ⟨_, rfl⟩
  rw [hX] at hx
  have HXL := hid hx
  have HX := hid hX
  obtain ⟨g, hg⟩ : ∃ g, w1.heap.size = g := ⟨_, rfl⟩
  have hwg : w.heap.size ≤ g := by rw [← hg]; exact HB1.out.size
  have HB2 := hid (HB1.out.grown hgrow HB1.out.size (fun k hk => absurd (show (none : Option Nat) = some k from hk) (by simp)))
  rw [hg] at hown
  rw [hg]
  have hown' : w2.ownsRow w.heap.size 5 1 (.slice (some ⟨g, 0, none⟩) n n) n (Lb (rowTo X n 0)) := by
    have e : madeCells (Value.int IntKind.u8 0).cells (n * 1) = madeCells #[Value.int IntKind.u8 0] n := by rw [Nat.mul_one]; rfl
    rw [e, toList_madeCells_one] at hown
    rw [rowTo_zero]
    simpa [Lb, K] using hown
  have HO := hid hown'
  clear hown hown' hgrow hx hX hg hmin hz0 hz1
  go_loopw [9] (fun i wr => ∃ k : Nat, k ≤ n ∧ i = .int .i64 k ∧ wr.ownsRow w.heap.size 5 1 (.slice (some ⟨g, 0, none⟩) n n) n (Lb (rowTo X n k)) ∧ Below w.heap.size w wr) (fun i _ => n - (intOf i).toNat)
  case atStart => exact ⟨0, by omega, rfl, HO.out, HB2.out⟩
  case round =>
    obtain ⟨k, hk, rfl, hoR, hbR⟩ := hrel
    have HOR := hid hoR
    have HBR := hid hbR
    clear hoR hbR
    by_cases hlt : k < n
    · have hlt' : (k : Int) < (n : Int) := by omega
      have hlt1 : (k : Int) < (l1.length : Int) := by omega
      have hlt2 : (k : Int) < (l2.length : Int) := by omega
      have hlt3 : (k : Int) < (l3.length : Int) := by omega
      obtain ⟨b1, o1, rfl, _, q1⟩ := Sl_cell (k := k) (Sl_below H1.out HBR.out (Nat.le_refl _)) (by omega)
      obtain ⟨b2, o2, rfl, _, q2⟩ := Sl_cell (k := k) (Sl_below H2.out HBR.out (Nat.le_refl _)) (by omega)
      obtain ⟨b3, o3, rfl, _, q3⟩ := Sl_cell (k := k) (Sl_below H3.out HBR.out (Nat.le_refl _)) (by omega)
      obtain ⟨u1, hu1⟩ : ∃ u, l1[k]'(by omega) = u := ⟨_, rfl⟩
      obtain ⟨u2, hu2⟩ : ∃ u, l2[k]'(by omega) = u := ⟨_, rfl⟩
      obtain ⟨u3, hu3⟩ : ∃ u, l3[k]'(by omega) = u := ⟨_, rfl⟩
      rw [hu1] at q1
      rw [hu2] at q2
      rw [hu3] at q3
      have hX2 : X[k]'(by have := HXL.out; omega) = u1 ^^^ u2 ^^^ u3 := by
        have := HX.out
        subst this
        rw [xor3_get k1 k2 k3 hlt, hu1, hu2, hu3]
      have hnx := rowTo_next HXL.out hlt
      rw [hX2] at hnx
      have HN := hid hnx
      have e1 := K_xor u1 u2
      have e2 := K_xor (u1 ^^^ u2) u3
      have hck : ∃ v, wr.cell? ⟨g, k, none⟩ = some v := by
        rw [HOR.out.cellAt k (by omega)]
        have h9 : k < (rowTo X n k).length := by rw [rowTo_len HXL.out hk]; exact hlt
        exact ⟨_, Lb_get h9⟩
      obtain ⟨v0, hc0⟩ := hck
      have hfr : wr.frozen? ⟨g, k, none⟩ = false := HOR.out.frozenAt k
      clear hX2 hnx hu1 hu2 hu3
      go_wp2
      go_region
      go_wp2
      go_roundw
      case rel =>
        have h8 := (HOR.out.stored k (.int .u8 (K (u1 ^^^ u2 ^^^ u3)))).1
        rw [Lb_set, HN.out] at h8
        exact ⟨k + 1, by omega, by go_num, h8.drew, (HBR.out.setCell hwg _).drew⟩
      case measure => simp [intOf]; omega
    · obtain rfl : k = n := by omega
      have hown := HOR.out
      rw [rowTo_all HXL.out] at hown
      have HO2 := hid hown
      clear hown
      have d1 : k ≤ c1 := Nat.le_trans k1 (Sl_room H1.out)
      have d2 : k ≤ c2 := Nat.le_trans k2 (Sl_room H2.out)
      have d3 : k ≤ c3 := Nat.le_trans k3 (Sl_room H3.out)
      obtain ⟨S1, hS1⟩ : ∃ S, more 0#32 (ws (l1.take k)) = S := ⟨_, rfl⟩
      obtain ⟨S2, hS2⟩ : ∃ S, more 0#32 (ws (l2.take k)) = S := ⟨_, rfl⟩
      obtain ⟨S3, hS3⟩ : ∃ S, more 0#32 (ws (l3.take k)) = S := ⟨_, rfl⟩
      have hlin := linear l1 l2 l3 k k1 k2 k3
      rw [HX.out, hS1, hS2, hS3] at hlin
      have HL := hid hlin
      have G1 := hid hS1
      have G2 := hid hS2
      have G3 := hid hS3
      have x1 := J_xor S1 S2
      have x2 := J_xor (S1 ^^^ S2) S3
      clear hlin hS1 hS2 hS3
      go_wp2_with fail
      go_region_with (first
        | (go_at_call 12
           refine (sum_any _ X _ (Sl_of_own HO2.out.drew) (Tab_below HT.out HBR.out.drew HTs.out)).mono ?_
           rintro e W3 ⟨rfl, hw⟩
           obtain rfl := hw
           rw [HL.out])
        | (go_at_call 25
           refine (copy_any _ (l1.take k) _ (Sl_first (Sl_below H1.out HBR.out.drew (Nat.le_refl _)) (by omega)) (by simp; omega)).mono ?_
           rintro e w4 ⟨v4, rfl, ho4, hb4⟩
           have HO4 := hid ho4
           have HB4 := hid (HBR.out.drew.trans (hb4.mono HBR.out.size))
           clear ho4 hb4)
        | (go_at_call 12
           refine (sum_any v4 (l1.take k) _ (Sl_of_own HO4.out) (Tab_below HT.out HB4.out HTs.out)).mono ?_
           rintro e W4 ⟨rfl, hw⟩
           obtain rfl := hw
           rw [G1.out])
        | (go_at_call 25
           refine (copy_any _ (l2.take k) _ (Sl_first (Sl_below H2.out HB4.out (Nat.le_refl _)) (by omega)) (by simp; omega)).mono ?_
           rintro e w5 ⟨v5, rfl, ho5, hb5⟩
           have HO5 := hid ho5
           have HB5 := hid (HB4.out.trans (hb5.mono HB4.out.size))
           clear ho5 hb5)
        | (go_at_call 12
           refine (sum_any v5 (l2.take k) _ (Sl_of_own HO5.out) (Tab_below HT.out HB5.out HTs.out)).mono ?_
           rintro e W5 ⟨rfl, hw⟩
           obtain rfl := hw
           rw [G2.out])
        | (go_at_call 25
           refine (copy_any _ (l3.take k) _ (Sl_first (Sl_below H3.out HB5.out (Nat.le_refl _)) (by omega)) (by simp; omega)).mono ?_
           rintro e w6 ⟨v6, rfl, ho6, hb6⟩
           have HO6 := hid ho6
           have HB6 := hid (HB5.out.trans (hb6.mono HB5.out.size))
           clear ho6 hb6)
        | (go_at_call 12
           refine (sum_any v6 (l3.take k) _ (Sl_of_own HO6.out) (Tab_below HT.out HB6.out HTs.out)).mono ?_
           rintro e W6 ⟨rfl, hw⟩
           obtain rfl := hw
           rw [G3.out]))
      go_wp2_with fail
      go_ret
      exact ⟨rfl, HB6.out⟩
end Go.Proofs.YtffkegfhnlkonaaDoor
