/- The law OddsExact. -/
import Derived.Test.YtkabnaemchgeeaaNumbersLaw
import Derived.Test.YtkabnaemchgeeaaNearLaws
import Derived.Test.YtkabnaemchgeeaaExactPlain
import Derived.Deep.QuietTactic
import Derived.BigQuiet
namespace Go.Proofs.Ytkabnaemchgeeaa
open Go.RowKit FloatPlain

/-- whole numbers as cells -/
def Wb (q : List Nat) : List Value := q.map fun (n : Nat) => Value.int .i64 n
theorem Wb_len (q : List Nat) : (Wb q).length = q.length := by simp [Wb]
theorem Wb_get {q : List Nat} {k : Nat} (h : k < q.length) : (Wb q)[k]? = some (.int .i64 (at0 q k : Nat)) := by
  rw [at0_lt h]; simp [Wb, h]
theorem Wb_set (q : List Nat) (k x : Nat) : (Wb q).set k (.int .i64 (x : Nat)) = Wb (q.set k x) := by simp [Wb, List.map_set]

/-- the ways, m + 1 of them, after i rounds, and within a round down to place k -/
def ways (m i k : Nat) : List Nat := (List.range (m + 1)).map fun j => if j ≤ k then pasC i j else pasC (i + 1) j
theorem ways_len (m i k : Nat) : (ways m i k).length = m + 1 := by simp [ways]
theorem ways_at0 (m i k j : Nat) (h : j < m + 1) : at0 (ways m i k) j = if j ≤ k then pasC i j else pasC (i + 1) j := by
  rw [at0_lt (by rw [ways_len]; exact h)]; simp [ways]
theorem ways_ext {a b : List Nat} {m : Nat} (ha : a.length = m + 1) (hb : b.length = m + 1) (h : ∀ j, j < m + 1 → at0 a j = at0 b j) : a = b := by
  apply List.ext_getElem (by rw [ha, hb])
  intro j h1 h2
  have := h j (by omega)
  rwa [at0_lt h1, at0_lt h2] at this
theorem at0_set (q : List Nat) (k x j : Nat) (h : j < q.length) : at0 (q.set k x) j = if k = j then x else at0 q j := by
  rw [at0_lt (by rw [List.length_set]; exact h), at0_lt h, List.getElem_set]
theorem ways_set (m i k : Nat) (_h : k + 1 ≤ m) : (ways m i (k + 1)).set (k + 1) (pasC (i + 1) (k + 1)) = ways m i k := by
  apply ways_ext (m := m) (by rw [List.length_set, ways_len]) (ways_len _ _ _)
  intro j hj
  rw [at0_set _ _ _ _ (by rw [ways_len]; exact hj), ways_at0 _ _ _ _ hj, ways_at0 _ _ _ _ hj]
  by_cases e : k + 1 = j
  · subst e; rw [if_pos rfl, if_neg (by omega)]
  · rw [if_neg e]
    by_cases c : j ≤ k
    · rw [if_pos c, if_pos (by omega)]
    · rw [if_neg c, if_neg (by omega)]
theorem ways_round (m i : Nat) : ways m i 0 = ways m (i + 1) m := by
  apply ways_ext (m := m) (ways_len _ _ _) (ways_len _ _ _)
  intro j hj
  rw [ways_at0 _ _ _ _ hj, ways_at0 _ _ _ _ hj, if_pos (show j ≤ m by omega)]
  split
  · obtain rfl : j = 0 := by omega
    rw [pasC_succ, if_pos rfl, Nat.add_zero]
  · rfl

theorem info2 : (Try.prog.info? 2).map (fun i => (i.zero, i.size, i.bytes)) = some (some (.int .i64 0), 1, 8) := by kernel_rfl
theorem ways_start (m : Nat) : (Wb (List.replicate (m + 1) 0)).set 0 (.int .i64 1) = Wb (ways m 0 m) := by
  have e : (Wb (List.replicate (m + 1) 0)).set 0 (.int .i64 1) = Wb ((List.replicate (m + 1) 0).set 0 1) := Wb_set _ 0 1
  rw [e]
  congr 1
  apply ways_ext (m := m) (by simp) (ways_len _ _ _)
  intro j hj
  rw [at0_set _ _ _ _ (by simpa using hj), ways_at0 _ _ _ _ hj, if_pos (show j ≤ m by omega), pasC_zero]
  by_cases h : j = 0
  · subst h; rfl
  · rw [if_neg (by omega), if_neg h, at0_lt (by simpa using hj)]; simp

theorem ways_made {w : World} {b g m : Nat} (h : w.ownsRow b 2 1 (.slice (some ⟨g, 0, none⟩) (m + 1) (m + 1)) (m + 1) (madeCells (Value.int .i64 0).cells ((m + 1) * 1)).toList) :
    (w.setCell ⟨g, 0, none⟩ (.int .i64 1)).ownsRow b 2 1 (.slice (some ⟨g, 0, none⟩) (m + 1) (m + 1)) (m + 1) (Wb (ways m 0 m)) ∧ w.cell? ⟨g, 0, none⟩ = some (.int .i64 0) ∧ w.frozen? ⟨g, 0, none⟩ = false := by
  have e : madeCells (Value.int IntKind.i64 0).cells ((m + 1) * 1) = madeCells #[Value.int IntKind.i64 0] (m + 1) := by rw [Nat.mul_one]; rfl
  rw [e, toList_madeCells_one] at h
  have e2 : List.replicate (m + 1) (Value.int IntKind.i64 0) = Wb (List.replicate (m + 1) 0) := by simp [Wb]
  rw [e2] at h
  have hst := (h.stored 0 (.int .i64 1)).1
  rw [ways_start] at hst
  refine ⟨hst, ?_, h.frozenAt 0⟩
  rw [h.cellAt 0 (by omega), Wb_get (by simp), at0_lt (by simp)]
  simp

set_option maxRecDepth 8000 in
set_option maxHeartbeats 4000000 in
theorem oddsExact_any (x : Int) (w : World) : Calls Try.prog 5 #[.int .i64 x] w fun e w' => e = .returned (.bool true) ∧ Below w.heap.size w w' := by
  obtain ⟨m, hn⟩ : ∃ n : Nat, x % 51 = n := ⟨(x % 51).toNat, by omega⟩
  have hmb : m ≤ 50 := by omega
  have HPK := hid hn
  have hw1 : IntKind.i64.wrap ((m : Int) + 1) = (m : Int) + 1 := by rw [IntKind.wrap_i64]; omega
  obtain ⟨i0, hi, hz0, hz1, hz2⟩ := info_parts info2
  have HI := hid hi
  have HZ := hid hz2
  clear hn hi hz2
  go_enter Try.func5, Try.ntmps5
  go_wp2_with fail
  refine (pick_any x 51 (by omega) (by omega) _).mono ?_
  rintro e w1 ⟨rfl, hw⟩
  obtain rfl := hw
  rw [HPK.out]
  go_wp2_with fail
  refine (shows_any m 0 _ (by omega) (by kernel_rfl) (v8.trans (by rw [s0])) (fun m _ => okay_zero m)).mono ?_
  rintro e w1 ⟨v1, rfl, ho, hb⟩
  obtain ⟨ga, ca, rfl, hca, _⟩ := own_some ho (by omega)
  have HB1 := hid hb
  have HA1 := hid (Sl_of_own ho)
  clear hb ho
  go_wp2_with fail
  have hcall := shows_any m one w1 (by omega) (by kernel_rfl) (v7.trans (by rw [s1])) (fun m _ => okay_one m)
  rw [show (one : Nat) = 4607182418800017408 from rfl] at hcall
  refine hcall.mono ?_
  clear hcall
  rintro e w2 ⟨v2, rfl, ho, hb⟩
  obtain ⟨gb, cb, rfl, hcb, _⟩ := own_some ho (by omega)
  have HB2 := hid (HB1.out.trans (hb.mono HB1.out.size))
  have HA2 := hid (Sl_below HA1.out hb (Nat.le_refl _))
  have HC2 := hid (Sl_of_own ho)
  clear hb ho
  go_wp2_with fail
  refine (shows_any m 4602678819172646912 _ (by omega) half_likB (sub_lik half_lik).1 (rows_lik half_lik m (by omega))).mono ?_
  rintro e w3 ⟨v3, rfl, ho, hb⟩
  obtain ⟨gc, cc, rfl, hcc, _⟩ := own_some ho (by omega)
  have HB3 := hid (HB2.out.trans (hb.mono HB2.out.size))
  have HA3 := hid (Sl_below HA2.out hb (Nat.le_refl _))
  have HC3 := hid (Sl_below HC2.out hb (Nat.le_refl _))
  have HD3 := hid (Sl_of_own ho)
  clear hb ho
  go_wp2_with (at_make; refine wpList_make_full _ rfl _ _ 33 rfl w3.heap.size 2 i0 (.int .i64 0) 1 Try.underlying33 HI.out hz0 hz1 .i64 .i64 _ _ (m + 1) rfl rfl (by push_cast; rfl) (by push_cast; rfl) (by rw [HZ.out]; omega) (by unfold maxLen; omega) (Nat.le_refl _) ?_; intro w4 hown hgrow; obtain ⟨hO, hc0, hf0⟩ := ways_made hown)
  have hb4 : Below w3.heap.size w3 w4 := (Below.refl _ _).grown hgrow (Nat.le_refl _) (fun k hk => absurd (show (none : Option Nat) = some k from hk) (by simp))
  have HB4 := hid (hb4.setCell (p := ⟨w3.heap.size, 0, none⟩) (Nat.le_refl _) (.int .i64 1))
  have HO := hid hO
  clear hb4 hO hc0 hf0 hown hgrow
  go_loopw [10] (fun i wr => ∃ k : Nat, k ≤ m ∧ i = .int .i64 k ∧ wr.ownsRow w3.heap.size 2 1 (.slice (some ⟨w3.heap.size, 0, none⟩) (m + 1) (m + 1)) (m + 1) (Wb (ways m k m)) ∧ Below w3.heap.size w3 wr) (fun i _ => m - (intOf i).toNat)
  case atStart => exact ⟨0, by omega, rfl, HO.out, HB4.out⟩
  case round =>
    obtain ⟨i, hik, rfl, hoR, hbR⟩ := hrel
    have HOR := hid hoR
    have HBR := hid hbR
    clear hoR hbR
    by_cases hlt : i < m
    · have hlt' : (i : Int) < (m : Int) := by omega
      go_wp2_with fail
      go_loopw [11] (fun j wr => ∃ k : Nat, k ≤ m ∧ j = .int .i64 k ∧ wr.ownsRow w3.heap.size 2 1 (.slice (some ⟨w3.heap.size, 0, none⟩) (m + 1) (m + 1)) (m + 1) (Wb (ways m i k)) ∧ Below w3.heap.size w3 wr) (fun j _ => (intOf j).toNat)
      case atStart => exact ⟨m, by omega, rfl, HOR.out, HBR.out⟩
      case round =>
        obtain ⟨k, hkm, rfl, hoS, hbS⟩ := hrel
        have HOS := hid hoS
        have HBS := hid hbS
        clear hoS hbS
        by_cases hpos : 0 < k
        · obtain ⟨j, hj⟩ : ∃ j, k = j + 1 := ⟨k - 1, by omega⟩
          have hpos' : (0 : Int) < (k : Int) := by omega
          have hwk : IntKind.i64.wrap ((k : Int) - 1) = (j : Int) := by rw [IntKind.wrap_i64]; omega
          have hlt1 : (k : Int) < (m : Int) + 1 := by omega
          have hlt2 : (j : Int) < (m : Int) + 1 := by omega
          have hck : wr.cell? ⟨w3.heap.size, k, none⟩ = some (.int .i64 (pasC i k : Nat)) := by
            rw [HOS.out.cellAt k (by omega), Wb_get (by rw [ways_len]; omega), ways_at0 _ _ _ _ (by omega), if_pos (Nat.le_refl _)]
          have hcj : wr.cell? ⟨w3.heap.size, j, none⟩ = some (.int .i64 (pasC i j : Nat)) := by
            rw [HOS.out.cellAt j (by omega), Wb_get (by rw [ways_len]; omega), ways_at0 _ _ _ _ (by omega), if_pos (by omega)]
          have hp1 := pasC_bound (i := i) (by omega) k
          have hp2 := pasC_bound (i := i) (by omega) j
          have hps : pasC (i + 1) k = pasC i k + pasC i j := by
            rw [pasC_succ, if_neg (by omega), show k - 1 = j by omega]
          have hsum : IntKind.i64.wrap (((pasC i k : Nat) : Int) + ((pasC i j : Nat) : Int)) = ((pasC (i + 1) k : Nat) : Int) := by
            rw [IntKind.wrap_i64, hps]; omega
          have hfr : wr.frozen? ⟨w3.heap.size, k, none⟩ = false := HOS.out.frozenAt k
          have hst := HOS.out.stored k (.int .i64 (pasC (i + 1) k : Nat))
          rw [Wb_set] at hst
          have hset := ways_set m i j (by omega)
          rw [← hj] at hset
          rw [hset] at hst
          have HST := hid hst
          have HJM := hid (show j ≤ m by omega)
          have HJK := hid (show j < k by omega)
          generalize pasC (i + 1) k = S at hsum HST
          generalize pasC i k = A at hck hsum
          generalize pasC i j = A' at hcj hsum
          clear hset hst hps hj hp1 hp2
          go_wp2_with fail
          go_region
          go_wp2_with fail
          go_roundw
          case rel => exact ⟨j, HJM.out, by go_num, HST.out.1.drew, (HBS.out.setCell (Nat.le_refl _) _).drew⟩
          case measure => have := HJK.out; simp [intOf]; omega
        · obtain rfl : k = 0 := by omega
          have ho9 := HOS.out
          rw [ways_round] at ho9
          have HO9 := hid ho9
          clear ho9
          go_wp2_with fail
          go_roundw
          case rel => exact ⟨i + 1, by omega, by go_num, HO9.out, HBS.out⟩
          case measure => simp [intOf]; omega
    · obtain rfl : i = m := by omega
      have hnl : ¬ (i : Int) < (i : Int) := by omega
      go_wp2_with fail
      have HA4 := hid (Sl_below HA3.out HBR.out (Nat.le_refl _))
      have HC4 := hid (Sl_below HC3.out HBR.out (Nat.le_refl _))
      have HD4 := hid (Sl_below HD3.out HBR.out (Nat.le_refl _))
      have HSZ := hid HBR.out.size
      have c1 : (FloatKind.f64.format.order 4607182418800017408 4607182418800017408 != some .eq) = false := by kernel_rfl
      have c2 : (FloatKind.f64.format.order 0 0 != some .eq) = false := by kernel_rfl
      obtain ⟨wA, rfl⟩ : ∃ v, v = wr := ⟨_, rfl⟩
      go_loopw [12] (fun j w5 => ∃ k : Nat, k ≤ i + 1 ∧ j = .int .i64 k ∧ Below wA.heap.size wA w5) (fun j _ => i + 1 - (intOf j).toNat)
      case atStart => exact ⟨0, by omega, rfl, Below.refl _ _⟩
      case round =>
        obtain ⟨k, hki, rfl, hb⟩ := hrel
        have HB := hid hb
        clear hb
        by_cases hle : k ≤ i
        · have hle' : (k : Int) ≤ (i : Int) := by omega
          have hlt1 : (k : Int) < (i : Int) + 1 := by omega
          obtain ⟨b1, o1, e1, _, q1⟩ := Sl_cellF (k := k) (Sl_below HA4.out HB.out (Nat.le_refl _)) (by rw [rowN_len]; omega)
          cases e1
          rw [Nat.zero_add, row_zero] at q1
          obtain ⟨b2, o2, e2, _, q2⟩ := Sl_cellF (k := k) (Sl_below HC4.out HB.out (Nat.le_refl _)) (by rw [rowN_len]; omega)
          cases e2
          rw [Nat.zero_add, show (4607182418800017408 : Nat) = one from rfl, row_one] at q2
          obtain ⟨b3, o3, e3, _, q3⟩ := Sl_cellF (k := k) (Sl_below HD4.out HB.out (Nat.le_refl _)) (by rw [rowN_len]; omega)
          cases e3
          rw [Nat.zero_add] at q3
          have ho5 := own_below HOR.out HB.out (Nat.le_refl _)
          have q4 : wr.cell? ⟨w3.heap.size, k, none⟩ = some (.int .i64 (pasC i k : Nat)) := by
            rw [ho5.cellAt k (by omega), Wb_get (by rw [ways_len]; omega), ways_at0 _ _ _ _ (by omega), if_pos hle]
          have hx := exact_all i k hmb hle
          have hp : ((pasC i k : Nat) : Int).natAbs < 9007199254740992 := by have := pasC_bound hmb k; omega
          have hF := (intW_fin hp).1
          have hex : at0 (pas i) k = pasC i k := rfl
          rw [hex] at hx
          have hm := mul_run hx
          have hc1 := conv_real ((2 ^ i : Nat) : Int)
          have hc2 := conv_real ((pasC i k : Nat) : Int)
          obtain ⟨X, hX⟩ : ∃ X, intW ((pasC i k : Nat) : Int) = X := ⟨_, rfl⟩
          rw [hX] at hm hc2 hF
          have hxx : (FloatKind.f64.format.order X X != some .eq) = false := by
            show (!(Ieee.double.order X X == some .eq)) = false
            rw [cmp_eq hF hF]; simp
          have hpw : (2 : Nat) ^ i ≤ 1125899906842624 := Nat.le_trans (Nat.pow_le_pow_right (by omega) hmb) (by decide)
          obtain ⟨P, hP⟩ : ∃ P : Nat, 2 ^ i = P := ⟨_, rfl⟩
          have hPi : (2 : Int) ^ i = (P : Int) := by rw [← hP]; simp
          rw [hP] at hm hc1 hpw
          have hwP : IntKind.i64.wrap ((2 : Int) ^ i) = (P : Int) := by rw [hPi, IntKind.wrap_i64]; omega
          have hwQ : IntKind.i64.wrap (P : Int) = (P : Int) := by rw [IntKind.wrap_i64]; omega
          have hwR : wrap64 (P : Int) = (P : Int) := by unfold wrap64; omega
          have hfo : floatOfInt .f64 (P : Int) = intW (P : Int) := rfl
          generalize intW (P : Int) = PW at hm hc1 hfo
          have hfx : floatOfInt .f64 ((pasC i k : Nat) : Int) = X := hX
          generalize at0 (rowN 4602678819172646912 i) k = HK at q3 hm
          generalize pasC i k = W1 at q4 hc2 hfx
          clear hx hp hF hX ho5 hex hP hpw
          by_cases h0 : k = 0
          · subst h0
            rw [if_pos rfl] at q1
            unfold one at q1 q2
            by_cases hi0 : i = 0
            · subst hi0
              rw [if_pos rfl] at q2
              go_wp2_with fail
              go_big_quiet (fail)
              go_wp2
              go_roundw
              case rel => exact ⟨1, by omega, rfl, (HB.out.trans ⟨rfl, rfl, rfl, Nat.le_refl _, fun _ _ => rfl⟩)⟩
              case measure => simp [intOf]
            · rw [if_neg (show ¬ 0 = i by omega)] at q2
              have n1 : ¬ (0 : Int) = (i : Int) := by omega
              have n2 : ((0 : Int) == (i : Int)) = false := by simp; omega
              go_wp2_with fail
              go_big_quiet (fail)
              go_wp2
              go_roundw
              case rel => exact ⟨1, by omega, rfl, (HB.out.trans ⟨rfl, rfl, rfl, Nat.le_refl _, fun _ _ => rfl⟩)⟩
              case measure => simp [intOf]
          · rw [if_neg h0] at q1
            have m1 : ¬ (k : Int) = 0 := by omega
            have m2 : ((k : Int) == 0) = false := by simp; omega
            unfold one at q2
            by_cases hi0 : k = i
            · rw [if_pos hi0] at q2
              have n1 : (k : Int) = (i : Int) := by omega
              obtain rfl := hi0
              clear n1
              go_wp2_with fail
              go_big_quiet (fail)
              go_wp2
              go_roundw
              case rel => exact ⟨k + 1, by omega, by go_num, (HB.out.trans ⟨rfl, rfl, rfl, Nat.le_refl _, fun _ _ => rfl⟩)⟩
              case measure => simp [intOf]
            · rw [if_neg hi0] at q2
              have n1 : ¬ (k : Int) = (i : Int) := by omega
              have n2 : ((k : Int) == (i : Int)) = false := by simp; omega
              go_wp2_with fail
              go_big_quiet (fail)
              go_wp2
              go_roundw
              case rel => exact ⟨k + 1, by omega, by go_num, (HB.out.trans ⟨rfl, rfl, rfl, Nat.le_refl _, fun _ _ => rfl⟩)⟩
              case measure => simp [intOf]; omega
        · obtain rfl : k = i + 1 := by omega
          have hnl : ¬ ((i : Int) + 1 ≤ (i : Int)) := by omega
          go_wp2_with fail
          refine (awake_any _).mono ?_
          rintro e w7 ⟨rfl, hb⟩
          have HB7 := hid (HB.out.trans (hb.mono HB.out.size))
          clear hb
          go_wp2_with fail
          go_ret
          exact ⟨rfl, HB3.out.trans ((HBR.out.trans (HB7.out.mono HSZ.out)).mono HB3.out.size)⟩
end Go.Proofs.Ytkabnaemchgeeaa
