/- Marks as words; a row of words as cells. -/
import Derived.Test.YtlflgcnfeapbnaaRowsLaw
import Derived.RegionTactic
import Derived.Maps.AppendAt
namespace Go.Proofs.Ytlflgcnfeapbnaa
open Go.RowKit MixPlain

theorem i64_in (n : Int) (h : -9223372036854775808 ≤ n ∧ n ≤ 9223372036854775807) : IntKind.i64.wrap n = n := by rw [IntKind.wrap_i64]; omega
theorem addr_add (b off j : Nat) : (⟨b, off, none⟩ : Addr).add j = ⟨b, off + j, none⟩ := by
  unfold Addr.add; split <;> simp_all
theorem info_parts {i : Option TypeInfo} {z : Option Value} {s b : Nat} (h : i.map (fun i => (i.zero, i.size, i.bytes)) = some (z, s, b)) : ∃ i0, i = some i0 ∧ i0.zero = z ∧ i0.size = s ∧ i0.bytes = b := by
  cases i with
  | none => cases h
  | some i0 => simp only [Option.map_some, Option.some.injEq, Prod.mk.injEq] at h; exact ⟨i0, rfl, h.1, h.2.1, h.2.2⟩

/-- the mark of a place, as a number and as a word -/
def mk (k i : Nat) : Nat := 1000003 * (k + 7) + i
def mb (k i : Nat) : Nat := mk k i

theorem mark_any (k i : Nat) (hk : k ≤ 1000) (hi : i ≤ 281474976710656) (w : World) : Calls Try.prog 52 #[.int .i64 k, .int .i64 i] w fun e w' => e = .returned (.int .i64 ((mk k i : Nat) : Int)) ∧ w = w' := by
  have e1 : IntKind.i64.wrap ((k : Int) + 7) = (k : Int) + 7 := i64_in _ (by omega)
  have e2 : IntKind.i64.wrap (1000003 * ((k : Int) + 7)) = 1000003 * ((k : Int) + 7) := i64_in _ (by omega)
  have e3 : IntKind.i64.wrap (1000003 * ((k : Int) + 7) + i) = ((mk k i : Nat) : Int) := by unfold mk; rw [i64_in _ (by omega)]; omega
  go_enter Try.func52, Try.ntmps52
  go_wp2
  go_ret
  refine ⟨congrArg Ending.returned (congrArg (Value.int .i64) ?_), rfl⟩
  unfold mk
  omega

theorem mark_facts (k i : Nat) (hk : k ≤ 1000) (hi : i ≤ 281474976710656) : IntKind.u64.wrap ((mk k i : Nat) : Int) = ((mb k i : Nat) : Int) ∧ ((mk k i : Nat) : Int) % 18446744073709551616 = ((mb k i : Nat) : Int) ∧ True := by
  have h : mk k i < 18446744073709551616 := by unfold mk; omega
  refine ⟨?_, ?_, trivial⟩
  · rw [IntKind.wrap_u64]; unfold mb; omega
  · unfold mb; omega

def Eb (l : List Nat) : List Value := l.map fun x => .int .u64 ((x : Nat) : Int)
theorem Eb_len (q : List Nat) : (Eb q).length = q.length := by simp [Eb]
theorem Eb_get {q : List Nat} {k : Nat} (h : k < q.length) : (Eb q)[k]? = some (.int .u64 ((q[k] : Nat) : Int)) := by simp [Eb, h]
theorem Eb_set (q : List Nat) (k x : Nat) : (Eb q).set k (.int .u64 ((x : Nat) : Int)) = Eb (q.set k x) := by simp [Eb, List.map_set]
theorem Eb_one (q : List Nat) : ∀ u ∈ Eb q, u.oneCell' = true := by
  intro u hu
  simp only [Eb, List.mem_map] at hu
  obtain ⟨b, _, rfl⟩ := hu
  rfl
theorem Eb_app (a b : List Nat) : Eb (a ++ b) = Eb a ++ Eb b := by simp [Eb]
theorem Eb_L (l : List (BitVec 64)) : L l = Eb (l.map BitVec.toNat) := by simp [L, Eb, I]

theorem Sl_cellE {w : World} {a : Option Addr} {n c k : Nat} {l : List Nat} (h : Sl w (.slice a n c) (Eb l)) (hk : k < l.length) :
    ∃ b off, a = some ⟨b, off, none⟩ ∧ b < w.heap.size ∧ w.cell? ⟨b, off + k, none⟩ = some (.int .u64 ((l[k] : Nat) : Int)) := by
  obtain ⟨a', c', e, _, _, h9⟩ := h
  injection e with e1 e2 e3
  subst e1
  rcases h9 with ⟨h9, _⟩ | ⟨b, off, rfl, hb, hcell⟩
  · have := Eb_len l
    rw [h9] at this
    simp at this
    omega
  · exact ⟨b, off, rfl, hb, hcell k _ (Eb_get hk)⟩

theorem Eb_rep (n : Nat) : Eb (List.replicate n 0) = List.replicate n (.int .u64 0) := by unfold Eb; rw [List.map_replicate]; rfl
theorem infoE : (Try.prog.info? 22).map (fun i => (i.zero, i.size, i.bytes)) = some (some (.int .u64 0), 1, 8) := info22
theorem infoS : (Try.prog.info? 29).map (fun i => (i.zero, i.size, i.bytes)) = some (some (.slice none 0 0), 1, 24) := by kernel_rfl
end Go.Proofs.Ytlflgcnfeapbnaa
