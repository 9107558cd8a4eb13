/- Marks as floats; a row of floats as cells. -/
import Derived.Test.YtkabnaemchgeeaaNearLaws
import Derived.Test.YtkabnaemchgeeaaRowsLaw
namespace Go.Proofs.Ytkabnaemchgeeaa
open Go.RowKit FloatPlain

theorem i64_in (n : Int) (h : -9223372036854775808 ≤ n ∧ n ≤ 9223372036854775807) : IntKind.i64.wrap n = n := by rw [IntKind.wrap_i64]; omega

/-- the mark of a place, as a number and as a float -/
def mk (k i : Nat) : Nat := 1000003 * (k + 7) + i
def mb (k i : Nat) : Nat := intW ((mk k i : Nat) : Int)

theorem mark_any (k i : Nat) (hk : k ≤ 1000) (hi : i ≤ 281474976710656) (w : World) : Calls Try.prog 61 #[.int .i64 k, .int .i64 i] w fun e w' => e = .returned (.int .i64 ((mk k i : Nat) : Int)) ∧ w = w' := by
  have e1 : IntKind.i64.wrap ((k : Int) + 7) = (k : Int) + 7 := i64_in _ (by omega)
  have e2 : IntKind.i64.wrap (1000003 * ((k : Int) + 7)) = 1000003 * ((k : Int) + 7) := i64_in _ (by omega)
  have e3 : IntKind.i64.wrap (1000003 * ((k : Int) + 7) + i) = ((mk k i : Nat) : Int) := by unfold mk; rw [i64_in _ (by omega)]; omega
  go_enter Try.func61, Try.ntmps61
  go_wp2
  go_ret
  refine ⟨congrArg Ending.returned (congrArg (Value.int .i64) ?_), rfl⟩
  unfold mk
  omega

theorem mark_facts (k i : Nat) (hk : k ≤ 1000) (hi : i ≤ 281474976710656) : (∀ w, (convert 2 22 (.int .i64 ((mk k i : Nat) : Int))).run Try.prog w = .ok (.float .f64 (mb k i)) w) ∧ floatOfInt .f64 ((mk k i : Nat) : Int) = mb k i ∧
    (FloatKind.f64.format.order (mb k i) (mb k i) == some .eq) = true := by
  have hF := (intW_fin (n := ((mk k i : Nat) : Int)) (by unfold mk; omega)).1
  refine ⟨fun w => conv_real _ w, rfl, ?_⟩
  show (Ieee.double.order (mb k i) (mb k i) == some .eq) = true
  unfold mb
  rw [cmp_eq hF hF]
  simp

abbrev Eb : List Nat → List Value := Fb
theorem Eb_len (q : List Nat) : (Eb q).length = q.length := Fb_len q
theorem Eb_get {q : List Nat} {k : Nat} (h : k < q.length) : (Eb q)[k]? = some (.float .f64 q[k]) := by simp [Fb, h]
theorem Eb_set (q : List Nat) (k x : Nat) : (Eb q).set k (.float .f64 x) = Eb (q.set k x) := Fb_set q k x
theorem Eb_one (q : List Nat) : ∀ u ∈ Eb q, u.oneCell' = true := Fb_one q
theorem Eb_app (a b : List Nat) : Eb (a ++ b) = Eb a ++ Eb b := by simp [Fb]

theorem Sl_cellE {w : World} {a : Option Addr} {n c k : Nat} {l : List Nat} (h : Sl w (.slice a n c) (Eb l)) (hk : k < l.length) :
    ∃ b off, a = some ⟨b, off, none⟩ ∧ b < w.heap.size ∧ w.cell? ⟨b, off + k, none⟩ = some (.float .f64 l[k]) := by
  obtain ⟨a', c', e, _, _, h9⟩ := h
  injection e with e1 e2 e3
  subst e1
  rcases h9 with ⟨h9, _⟩ | ⟨b, off, rfl, hb, hcell⟩
  · have := Eb_len l
    rw [h9] at this
    simp at this
    omega
  · exact ⟨b, off, rfl, hb, hcell k _ (Eb_get hk)⟩

theorem Eb_rep (n : Nat) : Eb (List.replicate n 0) = List.replicate n (.float .f64 0) := by unfold Eb Fb; rw [List.map_replicate]
theorem infoE : (Try.prog.info? 22).map (fun i => (i.zero, i.size, i.bytes)) = some (some (.float .f64 0), 1, 8) := info22
theorem infoS : (Try.prog.info? 29).map (fun i => (i.zero, i.size, i.bytes)) = some (some (.slice none 0 0), 1, 24) := by kernel_rfl
end Go.Proofs.Ytkabnaemchgeeaa
