/- A row of ints as cells, for the texts on lists that lie apart. -/
import Derived.Test.YtnaogcpcaabbhaaLent
namespace Go.Proofs.Ytnaogcpcaabbhaa.I
open Go.RowKit FloatPlain

theorem mark_facts (k i : Nat) (_hk : k ≤ 1000) (_hi : i ≤ 281474976710656) : True ∧ True ∧ True := ⟨trivial, trivial, trivial⟩

abbrev Eb : List Nat → List Value := Ib
theorem Eb_len (q : List Nat) : (Eb q).length = q.length := Ib_len q
theorem Eb_get {q : List Nat} {k : Nat} (h : k < q.length) : (Eb q)[k]? = some (.int .i64 ((q[k] : Nat) : Int)) := by simp [Ib, h]
theorem Eb_set (q : List Nat) (k x : Nat) : (Eb q).set k (.int .i64 ((x : Nat) : Int)) = Eb (q.set k x) := Ib_set q k x
theorem Eb_one (q : List Nat) : ∀ u ∈ Eb q, u.oneCell' = true := by
  intro u hu
  simp only [Ib, List.mem_map] at hu
  obtain ⟨b, _, rfl⟩ := hu
  rfl
theorem Eb_app (a b : List Nat) : Eb (a ++ b) = Eb a ++ Eb b := by simp [Ib]

theorem Sl_cellE {w : World} {a : Option Addr} {n c k : Nat} {l : List Nat} (h : Sl w (.slice a n c) (Eb l)) (hk : k < l.length) :
    ∃ b off, a = some ⟨b, off, none⟩ ∧ b < w.heap.size ∧ w.cell? ⟨b, off + k, none⟩ = some (.int .i64 ((l[k] : Nat) : Int)) := by
  obtain ⟨a', c', e, _, _, h9⟩ := h
  injection e with e1 e2 e3
  subst e1
  rcases h9 with ⟨h9, _⟩ | ⟨b, off, rfl, hb, hcell⟩
  · have := Eb_len l
    rw [h9] at this
    simp at this
    omega
  · exact ⟨b, off, rfl, hb, hcell k _ (Eb_get hk)⟩

theorem Eb_rep (n : Nat) : Eb (List.replicate n 0) = List.replicate n (.int .i64 0) := by unfold Eb Ib; rw [List.map_replicate]; rfl
theorem infoE : (Try.prog.info? 3).map (fun i => (i.zero, i.size, i.bytes)) = some (some (.int .i64 0), 1, 8) := info3
theorem infoS : (Try.prog.info? 30).map (fun i => (i.zero, i.size, i.bytes)) = some (some (.slice none 0 0), 1, 24) := by kernel_rfl
end Go.Proofs.Ytnaogcpcaabbhaa.I
