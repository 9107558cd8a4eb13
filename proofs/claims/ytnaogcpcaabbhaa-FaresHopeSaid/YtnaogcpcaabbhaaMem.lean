/- Slices as lists: what a slice's cells hold, kept over later worlds. (No program in sight.) -/
import Derived.WalkKit
import Derived.WalkLawsBesides
import Derived.WalkSpells
namespace Go.Proofs.Ytnaogcpcaabbhaa
open Go.RowKit

/-- the slice v shows the cells xs (one cell an element), in blocks below the heap's end -/
def Sl (w : World) (v : Value) (xs : List Value) : Prop :=
  ∃ a cap, v = .slice a xs.length cap ∧ xs.length ≤ cap ∧ cap ≤ maxLen ∧ ((xs = [] ∧ cap = 0) ∨ ∃ b off, a = some ⟨b, off, none⟩ ∧ b < w.heap.size ∧ ∀ j u, xs[j]? = some u → w.cell? ⟨b, off + j, none⟩ = some u)

theorem Sl_nil (w : World) : Sl w (.slice none 0 0) [] := ⟨none, 0, rfl, Nat.le_refl _, by unfold maxLen; omega, Or.inl ⟨rfl, rfl⟩⟩

/-- an empty piece, wherever it lies -/
theorem Sl_zero (w : World) (b off cap : Nat) (hb : b < w.heap.size) (hc : cap ≤ maxLen) : Sl w (.slice (some ⟨b, off, none⟩) 0 cap) [] :=
  ⟨_, cap, rfl, Nat.zero_le _, hc, Or.inr ⟨b, off, rfl, hb, fun j u h => by simp at h⟩⟩

theorem Sl_of_own {w : World} {base : Nat} {e : TypeId} {v : Value} {n : Nat} {xs : List Value} (h : w.ownsRow base e 1 v n xs) : Sl w v xs := by
  have hl : xs.length = n := by have := h.1; omega
  rcases h.2 with ⟨rfl, h0⟩ | ⟨g, cap, cur, rfl, hb, hg, hnc, hcm, hcs, htake⟩
  · have : xs = [] := List.eq_nil_of_length_eq_zero (by omega)
    subst this
    exact Sl_nil w
  · refine ⟨some ⟨g, 0, none⟩, cap, by rw [hl], by omega, hcm, Or.inr ⟨g, 0, rfl, (Array.getElem?_eq_some_iff.1 hg).1, ?_⟩⟩
    intro j u hj
    have := h.cells (g := g) rfl j u hj
    have hadd : (⟨g, 0, none⟩ : Addr).add j = ⟨g, 0 + j, none⟩ := by unfold Addr.add; split <;> simp_all
    rw [hadd] at this
    exact this

theorem Sl_below {w w' : World} {B : Nat} {v : Value} {xs : List Value} (h : Sl w v xs) (hb : Below B w w') (hB : w.heap.size ≤ B) : Sl w' v xs := by
  obtain ⟨a, cap, hv, hc, hm, h⟩ := h
  refine ⟨a, cap, hv, hc, hm, ?_⟩
  rcases h with h | ⟨b, off, ha, hlt, hcell⟩
  · exact Or.inl h
  · refine Or.inr ⟨b, off, ha, by have := hb.size; omega, fun j u hj => ?_⟩
    rw [hb.cell (p := ⟨b, off + j, none⟩) (by show b < B; omega)]
    exact hcell j u hj

theorem own_below {w w' : World} {B base : Nat} {e : TypeId} {size : Nat} {v : Value} {n : Nat} {xs : List Value} (h : w.ownsRow base e size v n xs) (hb : Below B w w') (hB : w.heap.size ≤ B) : w'.ownsRow base e size v n xs := by
  refine ⟨h.1, ?_⟩
  rcases h.2 with h2 | ⟨g, cap, cur, hv, hbg, hg, r⟩
  · exact Or.inl h2
  · have hlt := (Array.getElem?_eq_some_iff.1 hg).1
    exact Or.inr ⟨g, cap, cur, hv, hbg, by rw [hb.block g (by omega)]; exact hg, r⟩

theorem own_mono {w : World} {base base' : Nat} {e : TypeId} {size : Nat} {v : Value} {n : Nat} {xs : List Value} (h : w.ownsRow base e size v n xs) (hb : base' ≤ base) : w.ownsRow base' e size v n xs := by
  refine ⟨h.1, ?_⟩
  rcases h.2 with h2 | ⟨g, cap, cur, hv, hbg, r⟩
  · exact Or.inl h2
  · exact Or.inr ⟨g, cap, cur, hv, by omega, r⟩

theorem own_form {w : World} {base : Nat} {e : TypeId} {size : Nat} {v : Value} {n : Nat} {xs : List Value} (h : w.ownsRow base e size v n xs) : ∃ a cap, v = .slice a n cap ∧ n ≤ cap ∧ cap ≤ maxLen := by
  rcases h.2 with ⟨h2, h3⟩ | ⟨g, cap, cur, hv, hbg, hg, hnc, hcm, _⟩
  · exact ⟨none, 0, by rw [h2, h3], by omega, by unfold maxLen; omega⟩
  · exact ⟨_, cap, hv, hnc, hcm⟩

theorem Sl_len {w : World} {v : Value} {xs : List Value} (h : Sl w v xs) : ∃ a cap, v = .slice a xs.length cap ∧ xs.length ≤ cap ∧ cap ≤ maxLen := by
  obtain ⟨a, cap, hv, hc, hm, _⟩ := h
  exact ⟨a, cap, hv, hc, hm⟩

/-- a piece of a slice -/
theorem Sl_cut {w : World} {b off n cap lo hi : Nat} {xs : List Value} (h : Sl w (.slice (some ⟨b, off, none⟩) n cap) xs) (h1 : lo ≤ hi) (h2 : hi ≤ n) :
    Sl w (.slice (some ⟨b, off + lo, none⟩) (hi - lo) (cap - lo)) ((xs.take hi).drop lo) := by
  obtain ⟨a, c, hv, hc, hm, h⟩ := h
  cases hv
  have hlen : ((xs.take hi).drop lo).length = hi - lo := by simp; omega
  rcases h with ⟨rfl, rfl⟩ | ⟨b', off', ha, hlt, hcell⟩
  · exact ⟨_, _, by rw [hlen], by omega, by omega, Or.inl ⟨by simp, by omega⟩⟩
  · cases ha
    refine ⟨_, _, by rw [hlen], by omega, by omega, Or.inr ⟨b, off + lo, rfl, hlt, ?_⟩⟩
    intro j u hj
    have hj' : xs[lo + j]? = some u := by
      rw [List.getElem?_drop, List.getElem?_take] at hj
      split at hj
      · exact hj
      · cases hj
    have := hcell (lo + j) u hj'
    rw [← Nat.add_assoc] at this
    exact this

/-- a slice that came in, as its reading tells it -/
theorem Sl_of_cells {w : World} {x : Addr} {len cap : Nat} {zs : List Value} (hl : len ≤ cap) (hm : cap ≤ maxLen) (hz : zs.length = cap) (hcell : ∀ i u, zs[i]? = some u → w.cell? (x.add i) = some u) : Sl w (.slice (some x) len cap) (zs.take len) := by
  have hlen : (zs.take len).length = len := by simp; omega
  by_cases h0 : cap = 0
  · have : zs = [] := List.eq_nil_of_length_eq_zero (by omega)
    subst this
    exact ⟨_, cap, by rw [hlen], by omega, hm, Or.inl ⟨by simp, h0⟩⟩
  · obtain ⟨u, hu⟩ : ∃ u, zs[0]? = some u := ⟨zs[0]'(by omega), List.getElem?_eq_getElem (by omega)⟩
    have hc0 := hcell 0 u hu
    obtain ⟨b, off, spot⟩ := x
    have hspot : spot = none := by simpa [Addr.add] using World.cell?_spot hc0
    subst hspot
    have hblk : b < w.heap.size := World.block_lt_of_cell? w ⟨b, off, none⟩ (by simpa [Addr.add] using hc0)
    refine ⟨_, cap, by rw [hlen], by omega, hm, Or.inr ⟨b, off, rfl, hblk, fun j v hj => ?_⟩⟩
    have hj' : zs[j]? = some v := by
      rw [List.getElem?_take] at hj
      split at hj
      · exact hj
      · cases hj
    have hadd : (⟨b, off, none⟩ : Addr).add j = ⟨b, off + j, none⟩ := by unfold Addr.add; split <;> simp_all
    rw [← hadd]
    exact hcell j v hj'
end Go.Proofs.Ytnaogcpcaabbhaa
