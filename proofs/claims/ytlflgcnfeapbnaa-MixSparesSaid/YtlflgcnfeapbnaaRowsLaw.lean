/- The law MixRows, by its contracts. -/
import Derived.Test.YtlflgcnfeapbnaaWords
namespace Go.Proofs.Ytlflgcnfeapbnaa
open Go.RowKit MixPlain

theorem mixWords_rowAt (seed : BitVec 64) (s m : Int) (n : Nat) (hs : s = I seed) (hm : m = n) (h : n ≤ 65536) (w : World) : Calls Try.prog 17 #[.int .u64 s, .int .i64 m] w fun e w' => ∃ g, e = .returned (.tuple #[.slice (some ⟨g, 0, none⟩) n n, .int .i64 0]) ∧ w'.ownsRow w.heap.size 22 1 (.slice (some ⟨g, 0, none⟩) n n) n (L (words seed n)) ∧ Below w.heap.size w w' := by
  subst hs hm; exact mixWords_row seed n h w

def Ginv : BitVec 64 := turned G
theorem G_inv : G * Ginv = 1#64 := by decide

theorem word_inj (seed : BitVec 64) (i k : Nat) (hi : i < 500) (hk : k < 500) (h : word seed k = word seed i) : k = i := by
  have h1 := congrArg back h
  unfold word at h1
  rw [back_hash, back_hash] at h1
  have h2 : BitVec.ofNat 64 (k + 1) * G = BitVec.ofNat 64 (i + 1) * G := by
    have h5 := congrArg (fun x => x - seed) h1
    simp only [BitVec.add_comm seed, BitVec.add_sub_cancel] at h5
    exact h5
  have h3 := congrArg (fun x => x * Ginv) h2
  simp only [BitVec.mul_assoc, G_inv, BitVec.mul_one] at h3
  have h4 := congrArg BitVec.toNat h3
  rw [BitVec.toNat_ofNat, BitVec.toNat_ofNat, Nat.mod_eq_of_lt (by omega), Nat.mod_eq_of_lt (by omega)] at h4
  omega

theorem words_take (seed : BitVec 64) (n f : Nat) (h : f ≤ n) : (words seed n).take f = words seed f := by
  unfold words
  rw [← List.map_take, List.take_range, Nat.min_eq_left h]

theorem seed_tail (seed : BitVec 64) (j : Nat) : seed + G + BitVec.ofNat 64 (j + 1) * G = seed + BitVec.ofNat 64 (1 + j + 1) * G := by
  rw [← seed_next seed (1 + j), Nat.add_comm 1 j, BitVec.add_assoc, BitVec.add_comm G, ← BitVec.add_assoc]

theorem word_tail (seed : BitVec 64) (j : Nat) : word (seed + G) j = word seed (1 + j) := congrArg MixPlain.hash (seed_tail seed j)

theorem words_tail (seed : BitVec 64) (n : Nat) : words (seed + G) n = (words seed (n + 1)).drop 1 := by
  apply List.ext_getElem?
  intro j
  rw [List.getElem?_drop]
  unfold words
  rw [List.getElem?_map, List.getElem?_map]
  by_cases h : j < n
  · have h1 : (List.range n)[j]? = some j := List.getElem?_range (by omega)
    have h2 : (List.range (n + 1))[1 + j]? = some (1 + j) := List.getElem?_range (by omega)
    rw [h1, h2, Option.map_some, Option.map_some, word_tail]
  · have h1 : (List.range n)[j]? = none := by simp; omega
    have h2 : (List.range (n + 1))[1 + j]? = none := by simp; omega
    rw [h1, h2, Option.map_none, Option.map_none]

theorem L_words_get (seed : BitVec 64) (n j : Nat) (h : j < n) : (L (words seed n))[j]? = some (.int .u64 (I (word seed j))) := by
  have h1 : (List.range n)[j]? = some j := List.getElem?_range (by omega)
  unfold L words
  rw [List.getElem?_map, List.getElem?_map, h1]
  rfl

theorem back_word (seed : BitVec 64) (j : Nat) : back (word seed j) = seed + BitVec.ofNat 64 (j + 1) * G := by
  unfold word; rw [back_hash]

/-- the constant, as the law reckons it -/
theorem const_is (seed : BitVec 64) : IntKind.u64.wrap (I (back (word seed 0)) - I seed) = I G := by
  rw [back_word, I_sub, BitVec.add_comm, BitVec.add_sub_cancel]
  have : BitVec.ofNat 64 (0 + 1) * G = G := by
    rw [show BitVec.ofNat 64 (0 + 1) = 1#64 from rfl, BitVec.one_mul]
  rw [this]

theorem word_arg' (seed : BitVec 64) (k : Nat) (h : k < 65536) : IntKind.u64.wrap (I seed + IntKind.u64.wrap (((k : Int) + 1) * I G)) = I (back (word seed k)) := by
  rw [back_word, G_is]; exact word_arg seed k h

theorem word_ne (seed : BitVec 64) (i k : Nat) (hi : i < 500) (hk : k < i) : (I (word seed k) == I (word seed i)) = false := by
  rw [I_eq, decide_eq_false_iff_not]
  intro h
  have := word_inj seed i k hi (by omega) h
  omega

theorem own_get {w : World} {base g n : Nat} {seed : BitVec 64} (h : w.ownsRow base 22 1 (.slice (some ⟨g, 0, none⟩) n n) n (L (words seed n))) (j : Nat) (hj : j < n) : w.cell? ⟨g, j, none⟩ = some (.int .u64 (I (word seed j))) := by
  rw [h.cellAt j (by omega), L_words_get seed n j hj]

set_option maxHeartbeats 1000000 in
theorem mixRows_any (seed : BitVec 64) (n few : Int) (w : World) : Calls Try.prog 8 #[.int .u64 (I seed), .int .i64 n, .int .i64 few] w fun e w' => e = .returned (.bool true) ∧ Below w.heap.size w w' := by
  obtain ⟨m, hm⟩ : ∃ m : Nat, n % 500 = (m : Int) := ⟨(n % 500).toNat, by omega⟩
  have hm5 : m < 500 := by omega
  obtain ⟨f, hf⟩ : ∃ f : Nat, few % ((m : Int) + 1) = (f : Int) := ⟨(few % ((m : Int) + 1)).toNat, by
    have := Int.emod_nonneg few (b := (m : Int) + 1) (by omega); omega⟩
  have hfm : f ≤ m := by
    have := Int.emod_lt_of_pos few (b := (m : Int) + 1) (by omega); omega
  have HM := hid hm
  have HF := hid hf
  clear hm hf
  have one1 : IntKind.u64.wrap (1 : Int) = 1 := by decide
  go_enter Try.func8, Try.ntmps8
  go_wp2_with fail
  refine (pick_any n 500 (by decide) (by decide) _).mono ?_
  rintro e w' ⟨rfl, rfl⟩
  rw [HM.out]
  go_wp2_with fail
  refine (pick_any few _ (by omega) (by omega) _).mono ?_
  rintro e w' ⟨rfl, rfl⟩
  rw [HF.out]
  go_wp2_with fail
  refine (mixWords_row seed m (by omega) _).mono ?_
  rintro e w1 ⟨g1, rfl, ho1, hb1⟩
  have HO1 := hid ho1
  have HB1 := hid hb1
  clear ho1 hb1
  go_wp2_with fail
  refine (mixWords_row seed f (by omega) _).mono ?_
  rintro e w2 ⟨g2, rfl, ho2, hb2⟩
  have HO2 := hid ho2
  have HB2 := hid hb2
  clear ho2 hb2
  go_wp2_with fail
  have hw : decide (words seed f = (words seed m).take f) = true := by rw [words_take seed m f hfm]; simp
  have HW := hid hw
  clear hw
  refine (same_any (words seed f) ((words seed m).take f) _ _ _ (Sl_of_own HO2.out) (by
    have h1 := Sl_cut (lo := 0) (hi := f) (Sl_below (Sl_of_own HO1.out) HB2.out (Nat.le_refl _)) (Nat.zero_le _) hfm
    simpa [L] using h1)).mono ?_
  rintro e w3 ⟨rfl, d1, rfl⟩
  rw [HW.out]
  go_wp2_with fail
  refine (mixWords_rowAt seed _ _ 1 rfl rfl (by omega) _).mono ?_
  rintro e w3 ⟨g3, rfl, ho3, hb3⟩
  have HO3 := hid ho3
  have HB3 := hid hb3
  have c3 : w3.cell? ⟨g3, 0, none⟩ = some (.int .u64 (I (word seed 0))) := own_get ho3 0 (by omega)
  clear ho3 hb3
  go_wp2_with fail
  refine (back_any (word seed 0) _ rfl _).mono ?_
  rintro e w4 ⟨rfl, rfl⟩
  have KC := hid (const_is seed)
  have HB12 := hid (HB1.out.trans (HB2.out.mono HB1.out.size))
  have HO1b := hid (own_below (own_below HO1.out HB2.out (Nat.le_refl _)) (below_drewN (Below.refl w2.heap.size w2) d1) (Nat.le_refl _))
  have HO1c := hid (own_below HO1b.out HB3.out (Nat.le_refl _))
  have HB13 := hid (show Below w.heap.size w w3 from (below_drewN HB12.out d1).trans (HB3.out.mono (below_drewN HB12.out d1).size))
  clear c3
  go_wp2_with fail
  rw [KC.out]
  go_loopw [14] (fun i wr => ∃ k d : Nat, k ≤ m ∧ i = .int .i64 k ∧ wr = w3.drewN d) (fun i _ => m - (intOf i).toNat)
  case atStart => exact ⟨0, 0, Nat.zero_le _, rfl, rfl⟩
  case round =>
    obtain ⟨k, d, hk, rfl, rfl⟩ := hrel
    by_cases hlt : k < m
    · have ck : w3.cell? ⟨g1, k, none⟩ = some (.int .u64 (I (word seed k))) := own_get HO1c.out k hlt
      have hi' : (k : Int) < (m : Int) := by omega
      have KA : (I (back (word seed k)) != IntKind.u64.wrap (I seed + IntKind.u64.wrap (((k : Int) + 1) * I G))) = false := by rw [word_arg' seed k (by omega)]; simp
      go_wp2_with fail
      refine (back_any (word seed k) _ rfl _).mono ?_
      rintro e w5 ⟨rfl, rfl⟩
      go_wp2_with fail
      clear KA ck
      obtain ⟨wo, hwo⟩ : ∃ wo : World, wo = w3.drewN d := ⟨_, rfl⟩
      rw [← hwo]
      have HWO := hid hwo
      clear hwo
      go_loopw [15] (fun j wr => ∃ q d2 : Nat, q ≤ k ∧ j = .int .i64 q ∧ wr = wo.drewN d2) (fun j _ => k - (intOf j).toNat)
      case atStart => exact ⟨0, 0, Nat.zero_le _, rfl, rfl⟩
      case round =>
        obtain ⟨q, d2, hq, rfl, rfl⟩ := hrel
        by_cases hql : q < k
        · have ck : wo.cell? ⟨g1, k, none⟩ = some (.int .u64 (I (word seed k))) := by rw [HWO.out]; exact own_get HO1c.out k hlt
          have cq : wo.cell? ⟨g1, q, none⟩ = some (.int .u64 (I (word seed q))) := by rw [HWO.out]; exact own_get HO1c.out q (by omega)
          have hqm : (q : Int) < (m : Int) := by omega
          have hne := word_ne seed k q (by omega) hql
          go_wp2
          go_quiet (fail)
          go_wp2
          go_roundw
          case rel => exact ⟨q + 1, d2 + nq, by omega, by go_num, rfl⟩
          case measure => simp [intOf]; omega
        · go_wp2
          go_roundw
          case rel => exact ⟨k + 1, d + d2, by omega, by go_num, by rw [HWO.out, World.drewN_drewN]⟩
          case measure => simp [intOf]; omega
    · by_cases hm0 : m = 0
      · go_wp2_with fail
        refine (awake_any _).mono ?_
        rintro e w5 ⟨rfl, rfl⟩
        go_wp2_with fail
        go_ret
        exact ⟨rfl, below_drewN HB13.out d⟩
      · go_wp2_with fail
        refine (mixWords_rowAt (seed + G) _ _ (m - 1) (I_add _ _) (by omega) (by omega) _).mono ?_
        rintro e w5 ⟨g5, rfl, ho5, hb5⟩
        have HO5 := hid ho5
        have HB5 := hid hb5
        clear ho5 hb5
        by_cases hm1 : m = 1
        · subst hm1
          go_wp2_with fail
          refine (same_any [] [] _ _ _ (by
            have h0 := Sl_of_own HO5.out
            exact h0) (by
            have h0 := own_below HO1c.out (below_drewN (Below.refl w3.heap.size w3) d) (Nat.le_refl _)
            exact Sl_zero _ _ _ _ (Sl_block (Sl_below (Sl_of_own h0) HB5.out (Nat.le_refl _))) (by unfold maxLen; omega))).mono ?_
          rintro e w6 ⟨rfl, d6, rfl⟩
          go_wp2_with fail
          refine (awake_any _).mono ?_
          rintro e w7 ⟨rfl, rfl⟩
          go_wp2_with fail
          go_ret
          exact ⟨rfl, below_drewN ((below_drewN HB13.out d).trans (HB5.out.mono (below_drewN HB13.out d).size)) d6⟩
        · have hm2 : 1 < m := by omega
          have hm3 : ¬ (m : Int) - 1 = 0 := by omega
          have hm4 : ¬ m - 1 = 0 := by omega
          go_wp2_with fail
          have hw : decide (words (seed + G) (m - 1) = (words seed m).drop 1) = true := by
            rw [words_tail, show m - 1 + 1 = m from by omega]; simp
          have HW5 := hid hw
          clear hw
          refine (same_any (words (seed + G) (m - 1)) ((words seed m).drop 1) _ _ _ (Sl_of_own HO5.out) (by
            have h0 := own_below HO1c.out (below_drewN (Below.refl w3.heap.size w3) d) (Nat.le_refl _)
            have h1 := Sl_cut (lo := 1) (hi := m) (Sl_below (Sl_of_own h0) HB5.out (Nat.le_refl _)) (by omega) (Nat.le_refl _)
            rw [List.take_of_length_le (by rw [L_len, words_len]; exact Nat.le_refl _)] at h1
            rw [show L ((words seed m).drop 1) = (L (words seed m)).drop 1 from List.map_drop]
            exact h1)).mono ?_
          rintro e w6 ⟨rfl, d6, rfl⟩
          rw [HW5.out]
          go_wp2_with fail
          refine (awake_any _).mono ?_
          rintro e w7 ⟨rfl, rfl⟩
          go_wp2_with fail
          go_ret
          exact ⟨rfl, below_drewN ((below_drewN HB13.out d).trans (HB5.out.mono (below_drewN HB13.out d).size)) d6⟩
end Go.Proofs.Ytlflgcnfeapbnaa
