/- The law CrcTells, by its contracts. -/
import Derived.Test.YtffkegfhnlkonaaDoorAwake
import Derived.Test.YtffkegfhnlkonaaDoorTellsPlain
import Derived.RegionTactic
namespace Go.Proofs.YtffkegfhnlkonaaDoor
open Go.RowKit CrcPlain

theorem pick_any (x n : Int) (hn : 1 ≤ n) (hn2 : n ≤ 9223372036854775807) (w : World) : Calls Tryd.prog 26 #[.int .i64 x, .int .i64 n] w fun e w' => e = .returned (.int .i64 (x % n)) ∧ w = w' := by
  have h0 : ¬ n < 1 := by omega
  have hz : (n == 0) = false := by simp; omega
  have k1 : x.tmod n < n := Int.tmod_lt_of_pos _ (by omega)
  have k2 : -n < x.tmod n := by
    have := Int.lt_tmod_of_pos x (b := n) (by omega)
    omega
  have E : (if x.tmod n < 0 then x.tmod n + n else x.tmod n) = x % n := by
    rw [Int.tmod_eq_emod]
    have e1 := Int.emod_nonneg x (b := n) (by omega)
    have e2 := Int.emod_lt_of_pos x (b := n) (by omega)
    split <;> split <;> omega
  have HE := hid E
  clear E
  by_cases c : x.tmod n < 0
  · go_enter Tryd.func26, Tryd.ntmps26
    go_wp2
    go_ret
    exact ⟨by rw [← HE.out, if_pos c]; rfl, rfl⟩
  · go_enter Tryd.func26, Tryd.ntmps26
    go_wp2
    go_ret
    exact ⟨by rw [← HE.out, if_neg (by omega)]; rfl, rfl⟩

theorem K_flip (c : BitVec 8) (m : Nat) : bits .xor .u8 (K c) (IntKind.u8.wrap ((2 : Int) ^ m)) = K (c ^^^ (1#8 <<< m)) := by
  have e : IntKind.u8.wrap ((2 : Int) ^ m) = ((1#8 <<< m).toNat : Int) := by
    rw [IntKind.wrap_u8', BitVec.toNat_shiftLeft, Nat.shiftLeft_eq]; simp
  rw [e]
  unfold K
  rw [u8_xor_nat _ _ (by have := c.isLt; omega) (by have := (1#8 <<< m).isLt; omega), BitVec.toNat_xor]

theorem J_bit (x : BitVec 32) (k : Nat) : ((J x / (2 : Int) ^ k).tmod 2 == 1) = x.getLsbD k := by
  rw [J_shr, Int.tmod_eq_emod_of_nonneg (J_nonneg _)]
  have : J (x >>> k) % (2 : Int) = if x.getLsbD k = true then 1 else 0 := by
    have h : x.getLsbD k = (x >>> k).getLsbD 0 := by rw [BitVec.getLsbD_ushiftRight, Nat.add_zero]
    rw [h]
    unfold J
    simp only [BitVec.getLsbD, Nat.testBit_zero, decide_eq_true_eq]
    split <;> omega
  rw [this]
  cases x.getLsbD k <;> decide

theorem J_zero (x : BitVec 32) : (J x == 0) = decide (x = 0#32) := by
  rw [show (0 : Int) = J 0#32 by decide, Bool.eq_iff_iff, beq_iff_eq, decide_eq_true_iff]
  exact ⟨J_inj, fun h => by rw [h]⟩

set_option maxHeartbeats 400000 in
theorem crcTells_any (a1 : Option Addr) (n1 c1 : Nat) (l : List (BitVec 8)) (at_ : Int) (x : BitVec 32) (w : World) (hT : Tab w) (hu : Sl w (.slice a1 n1 c1) (Lb l)) (hl : l.length ≤ 140737488351232) :
    Calls Tryd.prog 8 #[.slice a1 n1 c1, .int .i64 at_, .int .u32 (J x)] w fun e w' => e = .returned (.bool true) ∧ Below w.heap.size w w' := by
  have hn1 : n1 = l.length := by obtain ⟨_, _, h, _⟩ := hu; rw [Lb_len] at h; cases h; rfl
  subst hn1
  have HT := hid hT
  have HU := hid hu
  have HL := hid hl
  have hTs := hT.size
  clear hT hu
  by_cases hlen : l.length < 4
  · have hlt : (l.length : Int) < 4 := by omega
    go_enter Tryd.func8, Tryd.ntmps8
    go_wp2_with fail
    refine (awake_any _ HT.out).mono ?_
    rintro e w1 ⟨rfl, hb1⟩
    have HB1 := hid hb1
    clear hb1
    go_wp2_with fail
    go_ret
    exact ⟨rfl, HB1.out⟩
  · by_cases hx : x = 0#32
    · have hz : (J x == 0) = true := by rw [J_zero]; simp [hx]
      have hge : ¬ (l.length : Int) < 4 := by omega
      clear hx
      go_enter Tryd.func8, Tryd.ntmps8
      go_wp2_with fail
      refine (awake_any _ HT.out).mono ?_
      rintro e w1 ⟨rfl, hb1⟩
      have HB1 := hid hb1
      clear hb1
      go_wp2_with fail
      go_ret
      exact ⟨rfl, HB1.out⟩
    · have hz : (J x == 0) = false := by rw [J_zero]; simp [hx]
      have hge : ¬ (l.length : Int) < 4 := by omega
      have HX := hid hx
      clear hx
      obtain ⟨p, hp⟩ : ∃ p : Nat, at_ % (8 * (l.length : Int) - 31) = (p : Int) := ⟨(at_ % (8 * (l.length : Int) - 31)).toNat, by
        have := Int.emod_nonneg at_ (b := 8 * (l.length : Int) - 31) (by omega); omega⟩
      have hpl : p + 32 ≤ 8 * l.length := by
        have := Int.emod_lt_of_pos at_ (b := 8 * (l.length : Int) - 31) (by omega); omega
      have HP := hid hp
      clear hp
      go_enter Tryd.func8, Tryd.ntmps8
      go_wp2_with fail
      refine (awake_any _ HT.out).mono ?_
      rintro e w1 ⟨rfl, hb1⟩
      have HB1 := hid hb1
      clear hb1
      go_wp2_with fail
      refine (pick_any at_ _ (by omega) (by omega) _).mono ?_
      rintro e W1 ⟨rfl, hw⟩
      obtain rfl := hw
      rw [HP.out]
      go_wp2_with fail
      refine (copy_any _ l _ (Sl_below HU.out HB1.out (Nat.le_refl _)) (by omega)).mono ?_
      rintro e w2 ⟨v2, rfl, ho2, hb2⟩
      have HB2 := hid (HB1.out.trans (hb2.mono HB1.out.size))
      obtain ⟨g, cap, hv2⟩ : ∃ g cap, v2 = .slice (some ⟨g, 0, none⟩) l.length cap := by
        rcases ho2.2 with ⟨_, h3⟩ | ⟨g, cap, cur, hv, _⟩
        · omega
        · exact ⟨g, cap, hv⟩
      subst hv2
      have hg : w.heap.size ≤ g := Nat.le_trans HB1.out.size (ho2.lt g rfl).1
      have HO2 := hid ho2
      clear ho2 hb2
      go_wp2_with fail
      go_loopw [8] (fun i wr => ∃ k : Nat, k ≤ 32 ∧ i = .int .i64 k ∧ wr.ownsRow w1.heap.size 5 1 (.slice (some ⟨g, 0, none⟩) l.length cap) l.length (Lb (flipTo l p x k)) ∧ Below w.heap.size w wr) (fun i _ => 32 - (intOf i).toNat)
      case atStart => exact ⟨0, by omega, rfl, HO2.out, HB2.out⟩
      case round =>
        obtain ⟨k, hk, rfl, hoR, hbR⟩ := hrel
        have HOR := hid hoR
        have HBR := hid hbR
        clear hoR hbR
        by_cases hk32 : k < 32
        · have g0 := J_nonneg x
          have hbit := J_bit x k
          by_cases hb : x.getLsbD k = true
          · rw [hb] at hbit
            have hq : (p + k) / 8 < l.length := by omega
            have hq' : ((p : Int) + (k : Int)) / 8 < (l.length : Int) := by omega
            obtain ⟨c, hc⟩ : ∃ c, (flipTo l p x k).getD ((p + k) / 8) 0#8 = c := ⟨_, rfl⟩
            have hck : wr.cell? ⟨g, (p + k) / 8, none⟩ = some (.int .u8 (K c)) := by
              rw [HOR.out.cellAt ((p + k) / 8) (by omega)]
              have h9 : (p + k) / 8 < (flipTo l p x k).length := by rw [flipTo_len]; exact hq
              rw [Lb_get h9, ← hc]
              simp [List.getD, List.getElem?_eq_getElem h9]
            have hfr : wr.frozen? ⟨g, (p + k) / 8, none⟩ = false := HOR.out.frozenAt ((p + k) / 8)
            have HC := hid hc
            have HB := hid hb
            clear hc hb
            go_wp2
            go_region
            go_wp2
            go_roundw
            case rel =>
              have h8 := (HOR.out.stored ((p + k) / 8) (.int .u8 (K (c ^^^ (1#8 <<< ((p + k) % 8)))))).1
              rw [Lb_set] at h8
              have hfl : flipTo l p x (k + 1) = (flipTo l p x k).set ((p + k) / 8) (c ^^^ (1#8 <<< ((p + k) % 8))) := by
                show (if x.getLsbD k = true then _ else _) = _
                rw [if_pos HB.out, HC.out]
              have e8 := K_flip c ((p + k) % 8)
              rw [IntKind.wrap_u8'] at e8
              refine ⟨k + 1, by omega, by go_num, ?_, ?_⟩
              · rw [e8, hfl]; exact h8.drew
              · exact (HBR.out.setCell hg _).drew
            case measure => simp [intOf]; omega
          · have hb' : x.getLsbD k = false := by simpa using hb
            rw [hb'] at hbit
            have hfl : flipTo l p x (k + 1) = flipTo l p x k := by unfold flipTo; rw [if_neg hb]; cases k <;> rfl
            have HFL := hid hfl
            clear hb hb' hfl
            go_wp2
            go_roundw
            case rel => exact ⟨k + 1, by omega, by go_num, by rw [HFL.out]; exact HOR.out, HBR.out⟩
            case measure => simp [intOf]; omega
        · obtain rfl : k = 32 := by omega
          go_wp2_with fail
          refine (copy_any _ l _ (Sl_below HU.out HBR.out (Nat.le_refl _)) (by omega)).mono ?_
          rintro e w3 ⟨v3, rfl, ho3, hb3⟩
          have HO3 := hid ho3
          have HO4 := hid (own_below HOR.out hb3 (Nat.le_refl _))
          have HB3 := hid (HBR.out.trans (hb3.mono HBR.out.size))
          clear ho3 hb3
          go_wp2_with fail
          refine (sum_any _ l _ (Sl_of_own HO3.out) (Tab_below HT.out HB3.out hTs)).mono ?_
          rintro e W4 ⟨rfl, hw⟩
          obtain rfl := hw
          go_wp2_with fail
          refine (sum_any _ (flipTo l p x 32) _ (Sl_of_own HO4.out) (Tab_below HT.out HB3.out hTs)).mono ?_
          rintro e W5 ⟨rfl, hw⟩
          obtain rfl := hw
          have hne : (J (more 0#32 (ws l)) != J (more 0#32 (ws (flipTo l p x 32)))) = true := by
            rw [bne_iff_ne]
            intro he
            exact tells l p x HX.out hpl (J_inj he)
          go_wp2_with fail
          go_ret
          exact ⟨rfl, HB3.out⟩
end Go.Proofs.YtffkegfhnlkonaaDoor
