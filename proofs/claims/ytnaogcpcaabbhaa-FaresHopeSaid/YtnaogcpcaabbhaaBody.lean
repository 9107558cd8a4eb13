/- Functions without a body here: RoundToEven, Float64bits, Float64frombits. -/
import Derived.Test.YtnaogcpcaabbhaaProg
import Derived.Test.YtnaogcpcaabbhaaNearPlain
import Derived.Test.YtnaogcpcaabbhaaMem
import Derived.WalkKit
import Derived.Laws.Externs
import Derived.WalkLawsBesides
import Derived.WalkSpells
namespace Go.Proofs.Ytnaogcpcaabbhaa
open Go.RowKit FloatPlain
theorem hid {p : Prop} (h : p) : Hid p := h

theorem call45 (args : Array Value) (w : World) : (callFunc 45 args).run Try.prog w = ((Go.Extern.MathFloor.toIntegral "math.RoundToEven" .even args).run Try.prog w).andThen fun v w' => .ok (.value v) w' :=
  run_callFunc_extern Try.func45 (by kernel_rfl) (by kernel_rfl) (by kernel_rfl) (by kernel_rfl) args w

theorem even_real (x : Nat) (w : World) (h : Ieee.Datum.isNaN (Ieee.double.read x) = false) : (callFunc 45 #[.float .f64 x]).run Try.prog w = .ok (.value (.float .f64 (evenW x))) w := by
  rw [call45]
  have e : FloatKind.f64.decode x = Ieee.double.read x := rfl
  show (Sem.run Try.prog (match FloatKind.f64.decode x with | .nan s t => _ | d => _) w).andThen _ = _
  rw [e]
  unfold evenW
  cases hd : Ieee.double.read x with
  | nan s t => rw [hd] at h; cases h
  | number s m i => rfl
  | infinity s => rfl
theorem quiet_nan (s : Bool) (t : Nat) : Nan (Ieee.double.write (.nan s (Ieee.double.quiet t))) := by
  have hq : 0 < Ieee.double.quiet t % 4503599627370496 := by
    have e : Ieee.double.quiet t = t ||| 2 ^ 51 := rfl
    rw [e, show (4503599627370496 : Nat) = 2 ^ 52 from rfl, Nat.or_mod_two_pow]
    have : 2 ^ 51 % 2 ^ 52 ≤ t % 2 ^ 52 ||| 2 ^ 51 % 2 ^ 52 := Nat.right_le_or
    have h2 : (2 ^ 51 % 2 ^ 52 : Nat) = 2251799813685248 := rfl
    omega
  have hl : Ieee.double.quiet t % 4503599627370496 < 4503599627370496 := Nat.mod_lt _ (by decide)
  show Nan (Ieee.double.word s (Ieee.double.infRung + Ieee.double.quiet t % Ieee.double.binade))
  rw [dbl_inf, dbl_binade]
  generalize Ieee.double.quiet t % 4503599627370496 = u at hq hl
  cases s
  · rw [word_false]; unfold Nan inf; omega
  · rw [word_true]; unfold Nan inf; omega

theorem even_nan (x : Nat) (w : World) (h : Nan x) : ∃ y w', (callFunc 45 #[.float .f64 x]).run Try.prog w = .ok (.value (.float .f64 y)) w' ∧ Nan y ∧ Below w.heap.size w w' := by
  have e : FloatKind.f64.decode x = Ieee.double.read x := rfl
  have hr := read_nan x h
  generalize x % 9223372036854775808 - inf = t at hr
  have hrun : (callFunc 45 #[.float .f64 x]).run Try.prog w = (Sem.run Try.prog (match FloatKind.f64.decode x with | .nan s t => _ | d => _) w).andThen _ := call45 _ w
  rw [e, hr] at hrun
  dsimp only at hrun
  by_cases hq : FloatKind.f64.format.quiet t = t
  · rw [if_pos hq] at hrun
    exact ⟨x, w, by rw [hrun]; rfl, h, Below.refl _ _⟩
  · rw [if_neg hq] at hrun
    rw [hrun]
    have hy : ∀ a : Nat, Nan (if (a == 1) = true then x else FloatKind.f64.encode (.nan (neg x) (FloatKind.f64.format.quiet t))) := by
      intro a
      split
      · exact h
      · exact quiet_nan _ _
    simp only [Sem.run_bind, run_choose_drew]
    split
    · exact ⟨_, _, rfl, hy _, Below.refl _ _⟩
    · exact ⟨_, _, rfl, hy _, (Below.refl _ _).drew⟩

theorem bits_real (x : Nat) (w : World) : (callFunc 44 #[.float .f64 x]).run Try.prog w = .ok (.value (.int .u64 x)) w := by
  have h : (callFunc 44 #[.float .f64 x]).run Try.prog w = ((Go.Extern.MathFloatBits.float64bits #[.float .f64 x]).run Try.prog w).andThen fun v w' => .ok (.value v) w' :=
    run_callFunc_extern Try.func44 (by kernel_rfl) (by kernel_rfl) (by kernel_rfl) (by kernel_rfl) _ w
  rw [h]; rfl

theorem real_bits (n : Int) (w : World) : (callFunc 75 #[.int .u64 n]).run Try.prog w = .ok (.value (.float .f64 n.toNat)) w := by
  have h : (callFunc 75 #[.int .u64 n]).run Try.prog w = ((Go.Extern.MathFloatBits.float64frombits #[.int .u64 n]).run Try.prog w).andThen fun v w' => .ok (.value v) w' :=
    run_callFunc_extern Try.func75 (by kernel_rfl) (by kernel_rfl) (by kernel_rfl) (by kernel_rfl) _ w
  rw [h]; rfl
end Go.Proofs.Ytnaogcpcaabbhaa
