/- Slices as lists: what a slice's cells hold, kept over later worlds. (No program in sight.) -/
import Derived.WalkKit
import Derived.WalkLawsBesides
import Derived.WalkSpells
namespace Go.Proofs.Ytlflgcnfeapbnaa
open Go.RowKit

/-- the slice v shows the cells xs (one cell an element), in blocks below the heap's end -/
def Sl (w : World) (v : Value) (xs : List Value) : Prop :=
  ∃ a cap, v = .slice a xs.length cap ∧ xs.length ≤ cap ∧ cap ≤ maxLen ∧ ((xs = [] ∧ a = none ∧ cap = 0) ∨ ∃ b off, a = some ⟨b, off, none⟩ ∧ b < w.heap.size ∧ ∀ j u, xs[j]? = some u → w.cell? ⟨b, off + j, none⟩ = some u)

theorem Sl_nil (w : World) : Sl w (.slice none 0 0) [] := ⟨none, 0, rfl, Nat.le_refl _, by unfold maxLen; omega, Or.inl ⟨rfl, rfl, rfl⟩⟩

/-- an empty piece, wherever it lies -/
theorem Sl_zero (w : World) (b off cap : Nat) (hb : b < w.heap.size) (hc : cap ≤ maxLen) : Sl w (.slice (some ⟨b, off, none⟩) 0 cap) [] :=
  ⟨_, cap, rfl, Nat.zero_le _, hc, Or.inr ⟨b, off, rfl, hb, fun j u h => by simp at h⟩⟩

/-- a slice that leads somewhere leads below the heap's end -/
theorem Sl_block {w : World} {b off n cap : Nat} {xs : List Value} (h : Sl w (.slice (some ⟨b, off, none⟩) n cap) xs) : b < w.heap.size := by
  obtain ⟨a, c, hv, _, _, h⟩ := h
  cases hv
  rcases h with ⟨_, h, _⟩ | ⟨b', off', ha, hlt, _⟩
  · cases h
  · cases ha; exact hlt

theorem Sl_of_own {w : World} {base : Nat} {e : TypeId} {v : Value} {n : Nat} {xs : List Value} (h : w.ownsRow base e 1 v n xs) : Sl w v xs := by
  have hl : xs.length = n := by have := h.1; omega
  rcases h.2 with ⟨rfl, h0⟩ | ⟨g, cap, cur, rfl, hb, hg, hnc, hcm, hcs, htake⟩
  · have : xs = [] := List.eq_nil_of_length_eq_zero (by omega)
    subst this
    exact Sl_nil w
  · refine ⟨some ⟨g, 0, none⟩, cap, by rw [hl], by omega, hcm, Or.inr ⟨g, 0, rfl, (Array.getElem?_eq_some_iff.1 hg).1, ?_⟩⟩
    intro j u hj
    have := h.cells (g := g) rfl j u hj
    have hadd : (⟨g, 0, none⟩ : Addr).add j = ⟨g, 0 + j, none⟩ := by unfold Addr.add; split <;> simp_all
    rw [hadd] at this
    exact this

theorem Sl_below {w w' : World} {B : Nat} {v : Value} {xs : List Value} (h : Sl w v xs) (hb : Below B w w') (hB : w.heap.size ≤ B) : Sl w' v xs := by
  obtain ⟨a, cap, hv, hc, hm, h⟩ := h
  refine ⟨a, cap, hv, hc, hm, ?_⟩
  rcases h with h | ⟨b, off, ha, hlt, hcell⟩
  · exact Or.inl h
  · refine Or.inr ⟨b, off, ha, by have := hb.size; omega, fun j u hj => ?_⟩
    rw [hb.cell (p := ⟨b, off + j, none⟩) (by show b < B; omega)]
    exact hcell j u hj

theorem own_below {w w' : World} {B base : Nat} {e : TypeId} {size : Nat} {v : Value} {n : Nat} {xs : List Value} (h : w.ownsRow base e size v n xs) (hb : Below B w w') (hB : w.heap.size ≤ B) : w'.ownsRow base e size v n xs := by
  refine ⟨h.1, ?_⟩
  rcases h.2 with h2 | ⟨g, cap, cur, hv, hbg, hg, r⟩
  · exact Or.inl h2
  · have hlt := (Array.getElem?_eq_some_iff.1 hg).1
    exact Or.inr ⟨g, cap, cur, hv, hbg, by rw [hb.block g (by omega)]; exact hg, r⟩

theorem own_mono {w : World} {base base' : Nat} {e : TypeId} {size : Nat} {v : Value} {n : Nat} {xs : List Value} (h : w.ownsRow base e size v n xs) (hb : base' ≤ base) : w.ownsRow base' e size v n xs := by
  refine ⟨h.1, ?_⟩
  rcases h.2 with h2 | ⟨g, cap, cur, hv, hbg, r⟩
  · exact Or.inl h2
  · exact Or.inr ⟨g, cap, cur, hv, by omega, r⟩

theorem own_form {w : World} {base : Nat} {e : TypeId} {size : Nat} {v : Value} {n : Nat} {xs : List Value} (h : w.ownsRow base e size v n xs) : ∃ a cap, v = .slice a n cap ∧ n ≤ cap ∧ cap ≤ maxLen := by
  rcases h.2 with ⟨h2, h3⟩ | ⟨g, cap, cur, hv, hbg, hg, hnc, hcm, _⟩
  · exact ⟨none, 0, by rw [h2, h3], by omega, by unfold maxLen; omega⟩
  · exact ⟨_, cap, hv, hnc, hcm⟩

theorem Sl_len {w : World} {v : Value} {xs : List Value} (h : Sl w v xs) : ∃ a cap, v = .slice a xs.length cap ∧ xs.length ≤ cap ∧ cap ≤ maxLen := by
  obtain ⟨a, cap, hv, hc, hm, _⟩ := h
  exact ⟨a, cap, hv, hc, hm⟩

/-- a piece of a slice -/
theorem Sl_cut {w : World} {b off n cap lo hi : Nat} {xs : List Value} (h : Sl w (.slice (some ⟨b, off, none⟩) n cap) xs) (h1 : lo ≤ hi) (h2 : hi ≤ n) :
    Sl w (.slice (some ⟨b, off + lo, none⟩) (hi - lo) (cap - lo)) ((xs.take hi).drop lo) := by
  obtain ⟨a, c, hv, hc, hm, h⟩ := h
  cases hv
  have hlen : ((xs.take hi).drop lo).length = hi - lo := by simp; omega
  refine ⟨_, _, by rw [hlen], by omega, by omega, Or.inr ⟨b, off + lo, rfl, ?_, ?_⟩⟩
  · rcases h with ⟨_, h, _⟩ | ⟨b', off', ha, hlt, _⟩
    · cases h
    · cases ha; exact hlt
  · intro j u hj
    rcases h with ⟨_, h, _⟩ | ⟨b', off', ha, hlt, hcell⟩
    · cases h
    · cases ha
      have hj' : xs[lo + j]? = some u := by
        rw [List.getElem?_drop, List.getElem?_take] at hj
        split at hj
        · exact hj
        · cases hj
      have := hcell (lo + j) u hj'
      rw [← Nat.add_assoc] at this
      exact this
end Go.Proofs.Ytlflgcnfeapbnaa
