/- The numbers of 32 and of 8 bits of the walk (integers) are such numbers of Lean: what each operation gives. -/
import Derived.Laws.BitsAllLaws
import Derived.Laws.ShiftsVarLaws
import Derived.WalkKit
import Derived.Test.YtffkegfhnlkonaaDoorPlain
namespace Go.Proofs.YtffkegfhnlkonaaDoor
open CrcPlain

/-- a number of 32 bits, as the walk has it -/
def J (x : BitVec 32) : Int := x.toNat
/-- a byte, as the walk has it -/
def K (x : BitVec 8) : Int := x.toNat

theorem J_nonneg (x : BitVec 32) : 0 ≤ J x := Int.natCast_nonneg _
theorem J_lt (x : BitVec 32) : J x < 4294967296 := by
  have := x.isLt; unfold J; omega
theorem K_nonneg (x : BitVec 8) : 0 ≤ K x := Int.natCast_nonneg _
theorem K_lt (x : BitVec 8) : K x < 256 := by
  have := x.isLt; unfold K; omega
theorem J_inj {x y : BitVec 32} (h : J x = J y) : x = y := by
  unfold J at h; exact BitVec.eq_of_toNat_eq (by omega)
theorem K_inj {x y : BitVec 8} (h : K x = K y) : x = y := by
  unfold K at h; exact BitVec.eq_of_toNat_eq (by omega)
theorem J_of (n : Int) (h0 : 0 ≤ n) (h1 : n < 4294967296) : J (BitVec.ofNat 32 n.toNat) = n := by
  unfold J; rw [BitVec.toNat_ofNat, Nat.mod_eq_of_lt (by omega)]; omega
theorem K_of (n : Int) (h0 : 0 ≤ n) (h1 : n < 256) : K (BitVec.ofNat 8 n.toNat) = n := by
  unfold K; rw [BitVec.toNat_ofNat, Nat.mod_eq_of_lt (by omega)]; omega

theorem J_xor (x y : BitVec 32) : bits .xor .u32 (J x) (J y) = J (x ^^^ y) := by
  unfold J; rw [u32_xor_nat _ _ (by have := x.isLt; omega) (by have := y.isLt; omega), BitVec.toNat_xor]
theorem J_and (x y : BitVec 32) : bits .and .u32 (J x) (J y) = J (x &&& y) := by
  unfold J; rw [u32_and_nat _ _ (by have := x.isLt; omega) (by have := y.isLt; omega), BitVec.toNat_and]
theorem J_or (x y : BitVec 32) : bits .or .u32 (J x) (J y) = J (x ||| y) := by
  unfold J; rw [u32_or_nat _ _ (by have := x.isLt; omega) (by have := y.isLt; omega), BitVec.toNat_or]
theorem J_shr (x : BitVec 32) (k : Nat) : J x / (2 : Int) ^ k = J (x >>> k) := by
  unfold J; rw [BitVec.toNat_ushiftRight, Nat.shiftRight_eq_div_pow]; simp
theorem J_shl (x : BitVec 32) (k : Nat) : IntKind.u32.wrap (J x * (2 : Int) ^ k) = J (x <<< k) := by
  unfold J; rw [IntKind.wrap_u32', BitVec.toNat_shiftLeft, Nat.shiftLeft_eq]; simp
theorem J_shr4 (x : BitVec 32) : J x / (16 : Int) = J (x >>> 4) := J_shr x 4

/-- a byte made a number of 32 bits -/
def wd (b : BitVec 8) : BitVec 32 := b.setWidth 32
theorem J_wd (b : BitVec 8) : J (wd b) = K b := by
  unfold J K wd; rw [BitVec.toNat_setWidth, Nat.mod_eq_of_lt (by have := b.isLt; omega)]
theorem J_not (x : BitVec 32) : bits .xor .u32 IntKind.u32.max (J x) = J (~~~ x) := by
  have e : IntKind.u32.max = J (BitVec.allOnes 32) := by decide
  rw [e, J_xor]
  rw [BitVec.xor_comm, BitVec.xor_allOnes]
theorem fifteen_is : J 15#32 = 15 := by decide

/-- the table, as it lies in memory from the first on -/
def Tab (w : World) : Prop := ∀ i : Nat, i < 16 → w.cell? ⟨0, i, none⟩ = some (.int .u32 (J (table.getD i 0#32)))

theorem Tab.size {w : World} (h : Tab w) : 0 < w.heap.size := World.block_lt_of_cell? w ⟨0, 0, none⟩ (h 0 (by omega))

/-- four steps, as the program takes them: what the walk wants to know -/
theorem nibble_at {w : World} (h : Tab w) (R : BitVec 32) : ∃ (i : Nat) (T S R2 : BitVec 32), i < 16 ∧ bits .and .u32 (J R) 15 = (i : Int) ∧ w.cell? ⟨0, i, none⟩ = some (.int .u32 (J T)) ∧ J R / (16 : Int) = J S ∧
    bits .xor .u32 (J T) (J S) = J R2 ∧ R2 = steps 4 R := by
  have hlt : (R &&& 15#32).toNat < 16 := by
    rw [BitVec.toNat_and]
    exact Nat.lt_of_le_of_lt Nat.and_le_right (by decide)
  refine ⟨(R &&& 15#32).toNat, table.getD (R &&& 15#32).toNat 0#32, R >>> 4, _, hlt, ?_, h _ hlt, J_shr4 R, J_xor _ _, (nibble R).symm⟩
  rw [← fifteen_is, J_and]; rfl
end Go.Proofs.YtffkegfhnlkonaaDoor
