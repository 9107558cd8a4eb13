/- The document's Join: a turn's bits, twice. -/
import Derived.Test.YtffkegfhnlkonaaDoorMends
import Derived.Test.YtffkegfhnlkonaaDoorTells
namespace Go.Proofs.YtffkegfhnlkonaaDoor
open Go.RowKit CrcPlain
/-- a turn's cells -/
def A32 (t : Nat → BitVec 32) : Array Value := ((List.range 32).map fun i => Value.int .u32 (J (t i))).toArray
theorem A32_size (t : Nat → BitVec 32) : (A32 t).size = 32 := by simp [A32]
theorem A32_get (t : Nat → BitVec 32) (i : Nat) (h : i < 32) : (A32 t)[i]? = some (.int .u32 (J (t i))) := by simp [A32, h]

theorem of_any (t : Nat → BitVec 32) (r : BitVec 32) (w : World) : Calls Tryd.prog 30 #[.agg (A32 t), .int .u32 (J r)] w fun e w' => e = .returned (.int .u32 (J (ofTo t r 32))) ∧ Below w.heap.size w w' := by
  go_enter Tryd.func30, Tryd.ntmps30
  go_wp2_with fail
  go_loop [5, 6] (fun x i => ∃ k : Nat, k ≤ 32 ∧ i = .int .i64 k ∧ x = .int .u32 (J (ofTo t r k))) (fun _ i => 32 - (intOf i).toNat)
  case atStart => exact ⟨0, by omega, rfl, val_u32 (show (0 : Int) = J 0#32 by decide)⟩
  case round =>
    obtain ⟨k, hk, rfl, rfl⟩ := hrel
    by_cases hlt : k < 32
    · have g0 := J_nonneg r
      have hlt' : (k : Int) < 32 := by omega
      have hbit := J_bit r k
      by_cases hb : r.getLsbD k = true
      · rw [hb] at hbit
        have hc : (w.alloc (.cells (A32 t) 47)).cell? ⟨w.heap.size, k, none⟩ = some (.int .u32 (J (t k))) := by
          rw [World.cell?_alloc_at _ _ _ _ rfl]
          exact A32_get t k hlt
        have hx := J_xor (ofTo t r k) (t k)
        have hf : ofTo t r k ^^^ t k = ofTo t r (k + 1) := by
          show _ = (if r.getLsbD k = true then _ else _)
          rw [if_pos hb]
        rw [hf] at hx
        clear hf hb
        go_wp2
        go_round
        case rel => exact ⟨k + 1, by omega, by go_num, rfl⟩
        case measure => simp [intOf]; omega
      · have hb' : r.getLsbD k = false := by simpa using hb
        rw [hb'] at hbit
        have hf : ofTo t r (k + 1) = ofTo t r k := by
          show (if r.getLsbD k = true then _ else _) = _
          rw [if_neg hb]
        have HF := hid hf
        clear hf hb hb'
        go_wp2
        go_round
        case rel => exact ⟨k + 1, by omega, by go_num, by rw [HF.out]⟩
        case measure => simp [intOf]; omega
    · obtain rfl : k = 32 := by omega
      go_wp2
      go_ret
      exact ⟨rfl, (Below.refl _ _).alloc (Nat.le_refl _) _⟩
end Go.Proofs.YtffkegfhnlkonaaDoor
