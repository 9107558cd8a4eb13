/- A row of floats as cells, for the texts on lists that lie apart. -/
import Derived.Test.YtnaogcpcaabbhaaLent
namespace Go.Proofs.Ytnaogcpcaabbhaa.R
open Go.RowKit FloatPlain

abbrev Eb : List Nat → List Value := Fb
theorem Eb_len (q : List Nat) : (Eb q).length = q.length := Fb_len q
theorem Eb_get {q : List Nat} {k : Nat} (h : k < q.length) : (Eb q)[k]? = some (.float .f64 q[k]) := by simp [Fb, h]
theorem Eb_set (q : List Nat) (k x : Nat) : (Eb q).set k (.float .f64 x) = Eb (q.set k x) := Fb_set q k x
theorem Eb_one (q : List Nat) : ∀ u ∈ Eb q, u.oneCell' = true := Fb_one q
theorem Eb_app (a b : List Nat) : Eb (a ++ b) = Eb a ++ Eb b := by simp [Fb]

theorem Sl_cellE {w : World} {a : Option Addr} {n c k : Nat} {l : List Nat} (h : Sl w (.slice a n c) (Eb l)) (hk : k < l.length) :
    ∃ b off, a = some ⟨b, off, none⟩ ∧ b < w.heap.size ∧ w.cell? ⟨b, off + k, none⟩ = some (.float .f64 l[k]) := by
  obtain ⟨a', c', e, _, _, h9⟩ := h
  injection e with e1 e2 e3
  subst e1
  rcases h9 with ⟨h9, _⟩ | ⟨b, off, rfl, hb, hcell⟩
  · have := Eb_len l
    rw [h9] at this
    simp at this
    omega
  · exact ⟨b, off, rfl, hb, hcell k _ (Eb_get hk)⟩

theorem Eb_rep (n : Nat) : Eb (List.replicate n 0) = List.replicate n (.float .f64 0) := by unfold Eb Fb; rw [List.map_replicate]
theorem infoE : (Try.prog.info? 33).map (fun i => (i.zero, i.size, i.bytes)) = some (some (.float .f64 0), 1, 8) := info33
theorem infoS : (Try.prog.info? 27).map (fun i => (i.zero, i.size, i.bytes)) = some (some (.slice none 0 0), 1, 24) := by kernel_rfl
end Go.Proofs.Ytnaogcpcaabbhaa.R
