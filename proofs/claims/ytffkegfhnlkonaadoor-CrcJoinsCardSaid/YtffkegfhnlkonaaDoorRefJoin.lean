/- The document's Join. -/
import Derived.Test.YtffkegfhnlkonaaDoorTwice
namespace Go.Proofs.YtffkegfhnlkonaaDoor
open Go.RowKit CrcPlain

/-- the turn of m bits -/
def Tm (m : Nat) : Nat → BitVec 32 := fun i => steps m (1#32 <<< i)

theorem twice_Tm (m : Nat) : (A32 fun i => ofTo (Tm m) (Tm m i) 32) = A32 (Tm (2 * m)) := by
  apply A32_congr
  intro i hi
  rw [of_eq (Tm m) m (fun i _ => rfl), Nat.two_mul]
  exact (steps_add m m _).symm
theorem J_one_shl (k : Nat) : (2 : Int) ^ k % 4294967296 = J (1#32 <<< k) := by
  have := J_shl 1#32 k
  rw [IntKind.wrap_u32', show J 1#32 = 1 from rfl, Int.one_mul] at this
  exact this

set_option maxRecDepth 6000 in
set_option maxHeartbeats 1600000 in
theorem refJoin_any (a b : BitVec 32) (n m : Int) (z : Int) (hn : n = J a) (hm : m = J b) (hz : z ≤ 9223372036854775807) (w : World) : Calls Tryd.prog 19 #[.int .u32 n, .int .u32 m, .int .i64 z] w fun e w' => e = .returned (.int .u32 (J (steps (8 * z.toNat) a ^^^ b))) ∧ Below w.heap.size w w' := by
  subst hn hm
  go_enter Tryd.func19, Tryd.ntmps19
  go_wp2_with fail
  go_loopw [8] (fun i wr => ∃ k : Nat, k ≤ 32 ∧ i = .int .i64 k ∧ Below w.heap.size w wr ∧ w.heap.size < wr.heap.size ∧ Fill (Tm 8) w.heap.size k wr) (fun i _ => 32 - (intOf i).toNat)
  case atStart =>
    refine ⟨0, by omega, rfl, (Below.refl _ _).alloc (Nat.le_refl _) _, by simp, ?_, ?_⟩
    · rw [zero_A32]; exact range_alloc w _ _ _ rfl
    · exact there_alloc w _ _ _ _ rfl (by simp)
  case round =>
    obtain ⟨k, hk, rfl, hB, hs, hF⟩ := hrel
    have HB := hid hB
    have HS := hid hs
    have HF := hid hF
    clear hB hs hF
    by_cases hlt : k < 32
    · have hlt' : (k : Int) < 32 := by omega
      have hc0 := (HF.out.hv k hlt)
      rw [Nat.zero_add] at hc0
      obtain ⟨hcs, hf0⟩ := hc0
      obtain ⟨v0, hc0⟩ := Option.isSome_iff_exists.1 hcs
      clear hcs
      have h1 := J_one_shl k
      have h2 : byte (1#32 <<< k) (wd 0#8) = Tm 8 k := by
        unfold byte Tm
        rw [show (wd 0#8) = 0#32 from rfl, BitVec.xor_zero]
      go_wp2_with fail
      refine (byte_any (1#32 <<< k) 0#8 _ _ rfl rfl _).mono ?_
      rintro e w1 ⟨rfl, hw⟩
      obtain rfl := hw
      rw [h2]
      clear h1 h2
      go_wp2_with fail
      go_roundw
      case rel =>
        refine ⟨k + 1, by omega, by go_num, HB.out.setCell (Nat.le_refl _) _, by simpa [World.setCell] using HS.out, HF.out.store hlt⟩
      case measure => simp [intOf]; omega
    · obtain rfl : k = 32 := by omega
      rw [show ((32 : Nat) : Int) = 32 from rfl]
      obtain ⟨hu, hv⟩ := HF.out
      rw [A32_upto] at hu
      have HU := hid hu
      have HV := hid hv
      clear hu hv
      go_wp2_with fail
      go_loopw [0, 2] (fun a' z' wr => ∃ (A : BitVec 32) (q : Int) (m : Nat), q ≤ 9223372036854775807 ∧ a' = .int .u32 (J A) ∧ z' = .int .i64 q ∧ steps (m * q.toNat) A = steps (8 * z.toNat) a ∧ Below w.heap.size w wr ∧ w.heap.size < wr.heap.size ∧ wr.rangeAt w.heap.size 0 (A32 (Tm m)).toList ∧ wr.there w.heap.size 0 32) (fun _ z' _ => (intOf z').toNat)
      case atStart => exact ⟨a, z, 8, hz, rfl, rfl, rfl, HB.out, HS.out, HU.out, HV.out⟩
      case round =>
        obtain ⟨A, q, m, hq, rfl, rfl, hinv, hB, hS, hU, hV⟩ := hrel
        have HI := hid hinv
        have HB := hid hB
        have HS := hid hS
        have HU := hid hU
        have HV := hid hV
        clear hinv hB hS hU hV
        by_cases hpos : 0 < q
        · obtain ⟨Q, rfl⟩ := Int.eq_ofNat_of_zero_le (show 0 ≤ q by omega)
          have htw := twice_Tm m
          have HTW := hid htw
          have hof := of_eq (Tm m) m (fun i _ => rfl)
          have HOF := hid hof
          clear htw hof
          by_cases ho : Q % 2 = 1
          · have ho' : (Q : Int) % 2 = 1 := by omega
            have HO := hid ho
            clear ho
            go_wp2_with (refine wpList_load_mid rfl 47 _ rfl w.heap.size 0 rfl (A32 (Tm m)).toList _ HU.out Tryd.underlying47 rfl (by rw [info47]; simp [A32_size]) ?_)
            refine (of_any (Tm m) A _).mono ?_
            rintro e w1 ⟨rfl, hb1⟩
            have H1 := hid (range_below HU.out hb1 HS.out)
            have HV1 := hid (there_below HV.out hb1 HS.out)
            have HBB := hid (HB.out.trans (hb1.mono (Nat.le_of_lt HS.out)))
            have HS1 := hid (Nat.lt_of_lt_of_le HS.out hb1.size)
            rw [HOF.out]
            clear hb1
            go_wp2_with (refine wpList_load_mid rfl 47 _ rfl w.heap.size 0 rfl (A32 (Tm m)).toList _ H1.out Tryd.underlying47 rfl (by rw [info47]; simp [A32_size]) ?_)
            refine (twice_any (Tm m) _).mono ?_
            rintro e w2 ⟨rfl, hb2⟩
            rw [HTW.out]
            have H2 := hid (there_below HV1.out hb2 HS1.out)
            have HB2 := hid (HBB.out.trans (hb2.mono (Nat.le_of_lt HS1.out)))
            have HS2 := hid (Nat.lt_of_lt_of_le HS1.out hb2.size)
            clear hb2
            go_wp2_with (refine wpList_store_mid rfl 47 _ _ rfl w.heap.size 0 (A32 (Tm (2 * m))) rfl rfl ?_ ?_ ?_ ?_)
            · rw [A32_size]; exact H2.out
            · rw [info47]; simp [A32_size]
            · exact all_oneCell_toArray (A32_one _)

            go_roundw
            case rel =>
              refine ⟨steps m A, (Q : Int) / 2, 2 * m, by omega, rfl, rfl, ?_, below_setCells (Nat.le_refl _) _ _ _ HB2.out, ?_, ?_, ?_⟩
              · rw [← HI.out, ← steps_add]
                have := HO.out
                congr 1
                rw [show ((Q : Int) / 2).toNat = Q / 2 by omega, Int.toNat_natCast]
                have h2 : Q = 2 * (Q / 2) + 1 := by omega
                generalize Q / 2 = c at h2
                subst h2
                rw [Nat.mul_add, Nat.mul_one, Nat.mul_comm 2 m, Nat.mul_assoc]
                omega
              · exact Nat.lt_of_lt_of_le HS2.out (below_setCells (B := 0) (Nat.zero_le _) _ _ _ (Below.refl _ _)).size
              · exact World.rangeAt_setCells_same _ _ _ _ (by rw [Array.length_toList, A32_size]; exact H2.out)
              · exact World.there_setCells H2.out _ _ _
            case measure => simp [intOf]; omega
          · have ho' : (Q : Int) % 2 = 0 := by omega
            have HO := hid ho
            clear ho
            have H1 := HU
            have HBB := HB
            go_wp2_with (refine wpList_load_mid rfl 47 _ rfl w.heap.size 0 rfl (A32 (Tm m)).toList _ H1.out Tryd.underlying47 rfl (by rw [info47]; simp [A32_size]) ?_)
            refine (twice_any (Tm m) _).mono ?_
            rintro e w2 ⟨rfl, hb2⟩
            rw [HTW.out]
            have H2 := hid (there_below HV.out hb2 HS.out)
            have HB2 := hid (HBB.out.trans (hb2.mono (Nat.le_of_lt HS.out)))
            have HS2 := hid (Nat.lt_of_lt_of_le HS.out hb2.size)
            clear hb2
            go_wp2_with (refine wpList_store_mid rfl 47 _ _ rfl w.heap.size 0 (A32 (Tm (2 * m))) rfl rfl ?_ ?_ ?_ ?_)
            · rw [A32_size]; exact H2.out
            · rw [info47]; simp [A32_size]
            · exact all_oneCell_toArray (A32_one _)

            go_roundw
            case rel =>
              refine ⟨A, (Q : Int) / 2, 2 * m, by omega, rfl, rfl, ?_, below_setCells (Nat.le_refl _) _ _ _ HB2.out, ?_, ?_, ?_⟩
              · rw [← HI.out]
                have := HO.out
                congr 1
                rw [show ((Q : Int) / 2).toNat = Q / 2 by omega, Int.toNat_natCast]
                have h2 : Q = 2 * (Q / 2) := by omega
                generalize Q / 2 = c at h2
                subst h2
                rw [Nat.mul_comm 2 m, Nat.mul_assoc]
              · exact Nat.lt_of_lt_of_le HS2.out (below_setCells (B := 0) (Nat.zero_le _) _ _ _ (Below.refl _ _)).size
              · exact World.rangeAt_setCells_same _ _ _ _ (by rw [Array.length_toList, A32_size]; exact H2.out)
              · exact World.there_setCells H2.out _ _ _
            case measure => simp [intOf]; omega
        · have hx := J_xor A b
          go_wp2_with fail
          go_ret
          refine ⟨ret_u32 ?_, HB.out⟩
          have := HI.out
          rw [show q.toNat = 0 by omega] at this
          rw [← this]
          rfl
end Go.Proofs.YtffkegfhnlkonaaDoor
