/- The numbers of 64 bits of the walk (integers) are numbers of 64 bits of Lean: what each operation gives. -/
import Derived.Laws.BitsAllLaws
import Derived.Laws.ShiftsVarLaws
namespace Go.Proofs.Ytlflgcnfeapbnaa

/-- a number of 64 bits, as the walk has it -/
def I (x : BitVec 64) : Int := x.toNat

theorem I_nonneg (x : BitVec 64) : 0 ≤ I x := Int.natCast_nonneg _
theorem I_lt (x : BitVec 64) : I x < 18446744073709551616 := by
  have := x.isLt; unfold I; omega
theorem I_inj {x y : BitVec 64} (h : I x = I y) : x = y := by
  unfold I at h; exact BitVec.eq_of_toNat_eq (by omega)
theorem I_of (n : Int) (h0 : 0 ≤ n) (h1 : n < 18446744073709551616) : I (BitVec.ofNat 64 n.toNat) = n := by
  unfold I; rw [BitVec.toNat_ofNat, Nat.mod_eq_of_lt (by omega)]; omega

theorem I_xor (x y : BitVec 64) : bits .xor .u64 (I x) (I y) = I (x ^^^ y) := by
  unfold I; rw [bits_xor_u64_nat _ _ (by have := x.isLt; omega) (by have := y.isLt; omega), BitVec.toNat_xor]
theorem I_and (x y : BitVec 64) : bits .and .u64 (I x) (I y) = I (x &&& y) := by
  unfold I; rw [u64_and_nat _ _ (by have := x.isLt; omega) (by have := y.isLt; omega), BitVec.toNat_and]
theorem I_or (x y : BitVec 64) : bits .or .u64 (I x) (I y) = I (x ||| y) := by
  unfold I; rw [u64_or_nat _ _ (by have := x.isLt; omega) (by have := y.isLt; omega), BitVec.toNat_or]
theorem I_mul (x y : BitVec 64) : IntKind.u64.wrap (I x * I y) = I (x * y) := by
  unfold I; rw [IntKind.wrap_u64, BitVec.toNat_mul]; simp
theorem I_add (x y : BitVec 64) : IntKind.u64.wrap (I x + I y) = I (x + y) := by
  unfold I; rw [IntKind.wrap_u64, BitVec.toNat_add]; simp
theorem I_sub (x y : BitVec 64) : IntKind.u64.wrap (I x - I y) = I (x - y) := by
  unfold I; rw [IntKind.wrap_u64, BitVec.toNat_sub]
  have := x.isLt; have := y.isLt
  omega
theorem I_shr (x : BitVec 64) (k : Nat) : I x / (2 : Int) ^ k = I (x >>> k) := by
  unfold I; rw [BitVec.toNat_ushiftRight, Nat.shiftRight_eq_div_pow]; simp
theorem I_shl (x : BitVec 64) (k : Nat) : IntKind.u64.wrap (I x * (2 : Int) ^ k) = I (x <<< k) := by
  unfold I; rw [IntKind.wrap_u64, BitVec.toNat_shiftLeft, Nat.shiftLeft_eq]; simp

theorem I_shr30 (x : BitVec 64) : I x / (1073741824 : Int) = I (x >>> 30) := I_shr x 30
theorem I_shr27 (x : BitVec 64) : I x / (134217728 : Int) = I (x >>> 27) := I_shr x 27
theorem I_shr31 (x : BitVec 64) : I x / (2147483648 : Int) = I (x >>> 31) := I_shr x 31
theorem one_is : I 1#64 = 1 := by decide
theorem I_and1 (x : BitVec 64) : bits .and .u64 (I x) 1 = I (x &&& 1#64) := by rw [← one_is, I_and]
theorem I_pow (k : Nat) : IntKind.u64.wrap ((2 : Int) ^ k) = I (1#64 <<< k) := by
  have := I_shl 1#64 k
  rw [one_is, Int.one_mul] at this
  exact this
end Go.Proofs.Ytlflgcnfeapbnaa
