/- How an argument of fares is opened. -/
import Derived.Test.YtnaogcpcaabbhaaBase
import Derived.Deep.Slices
import Derived.Deep.Fields
import Derived.ChangeSame
import Derived.SizedLaws
import Derived.Carry
import Derived.ProofKit
import Derived.OpenShut
import Derived.Laws.Cover2
namespace Go.Proofs.Ytnaogcpcaabbhaa
open Go.ChangeShapes Go.WideShapes Go.ChangeAt Go.RowKit Go.Deep FloatPlain

theorem laidOut : laidOutB Try.prog = true := by kernel_rfl
theorem cells33 : Try.prog.cellsOf 33 = 1 := by kernel_rfl
theorem cells27 : Try.prog.cellsOf 27 = 1 := by kernel_rfl
theorem cells48 : Try.prog.cellsOf 48 = 2 := by kernel_rfl
theorem bytes33 : Try.prog.bytesOf 33 = 8 := by kernel_rfl
theorem bytes48 : Try.prog.bytesOf 48 = 32 := by kernel_rfl

section
variable {H : Type} {enc : TypeId × Value → H} {W : World} {base : Nat} {held : Bool}

theorem trod_float_gen {P : Program} {w : World} {spare : Nat → Bool} {fuel : Nat} {t : TypeId} {cs : List Value} {x : DataW H × List MemPlace} {k : FloatKind} (ht : P.underlying t = some (.float k)) (h : DataW.trod enc P w base spare held fuel t cs = some x) : ∃ n, cs = [.float k n] ∧ x = (.lit (.float k n), []) ∧ (Lit.float k n).wf = true := by
  cases fuel with
  | zero => simp [DataW.trod] at h
  | succ n =>
    unfold DataW.trod at h
    rw [ht] at h
    split at h <;> simp_all
theorem trod_float {n : Nat} {cs : List Value} {y : DataW H × List MemPlace} (h : DataW.trod enc Try.prog W base (fun _ => true) held n 33 cs = some y) : ∃ b, cs = [.float .f64 b] ∧ y = (.lit (.float .f64 b), []) ∧ b < 18446744073709551616 := by
  obtain ⟨b, h1, h2, h3⟩ := trod_float_gen Try.underlying33 h
  exact ⟨b, h1, h2, by simpa [Lit.wf] using h3⟩

theorem open_floats {n : Nat} {cs : List Value} {y : DataW H × List MemPlace} (h : DataW.trod enc Try.prog W base (fun _ => true) held n 27 cs = some y) :
    ∃ (v : Value) (l : List Nat), cs = [v] ∧ Sl W v (Fb l) ∧ (∀ j, at0 l j < 18446744073709551616) ∧ ((y.1 = .nil ∧ l = []) ∨ ∃ elems spare, y.1 = .slice elems spare ∧ elems.length = l.length) := by
  rcases open_slice Try.underlying27 h with ⟨rfl, rfl⟩ | ⟨a, len, cap, m, n', D, Pl, rfl, _, hl, hm, hmm, rfl, hi⟩
  · exact ⟨_, [], rfl, Sl_nil W, fun j => by rw [at0_ge (Nat.zero_le _)]; decide, Or.inl ⟨rfl, rfl⟩⟩
  · simp only [if_true] at hmm
    subst hmm
    have hel : ∀ i, i < m → ∃ b, W.cell? (a.add i) = some (.float .f64 b) ∧ b < 18446744073709551616 := by
      intro i him
      obtain ⟨cs', hc, ht⟩ := hi i him
      obtain ⟨b, rfl, _, hb⟩ := trod_float ht
      rw [cells33, Nat.mul_one] at hc
      obtain ⟨_, _, hat⟩ := World.cells?_some hc
      exact ⟨b, hat 0 (by omega), hb⟩
    obtain ⟨f, hf⟩ := choose_lt hel
    have hs := Sl_of_cells (w := W) (x := a) (len := len) (cap := m) (zs := Fb ((List.range m).map f)) hl hm (by simp [Fb]) (fun i u hu => by
      have hlt : i < m := by
        rcases Nat.lt_or_ge i m with h | h
        · exact h
        · rw [List.getElem?_eq_none (by simp [Fb]; omega)] at hu; cases hu
      rw [(hf i hlt).1, ← hu]
      simp [Fb, hlt])
    have e : (Fb ((List.range m).map f)).take len = Fb ((List.range len).map f) := by
      unfold Fb
      rw [← List.map_take, ← List.map_take, List.take_range, Nat.min_eq_left hl]
    rw [e] at hs
    refine ⟨_, _, rfl, hs, fun j => ?_, Or.inr ⟨_, _, rfl, by simp⟩⟩
    rcases Nat.lt_or_ge j len with c | c
    · rw [at0_lt (by simp; exact c)]
      simp
      exact (hf j (by omega)).2
    · rw [at0_ge (by simp; exact c)]; decide

theorem len_two {α : Type} {l : List α} (h : l.length = 2) : ∃ a b, l = [a, b] := by
  match l, h with
  | [a, b], _ => exact ⟨a, b, rfl⟩

theorem open_elem {n : Nat} {cs : List Value} {y : DataW H × List MemPlace} (h : DataW.trod enc Try.prog W base (fun _ => true) held n 48 cs = some y) :
    ∃ v0 v1 y0 y1 m, cs = [v0, v1] ∧ y.1 = .agg [y0.1, y1.1] ∧ DataW.trod enc Try.prog W base (fun _ => true) held m 33 [v0] = some y0 ∧ DataW.trod enc Try.prog W base (fun _ => true) held m 27 [v1] = some y1 := by
  obtain ⟨ys, nn, hn', hy, hlen, hyl, hf⟩ := DataW.trod_struct Try.underlying48 h
  rw [cells48] at hlen
  obtain ⟨v0, v1, rfl⟩ := len_two hlen
  obtain ⟨y0, y1, rfl⟩ := len_two (show ys.length = 2 from hyl)
  have g0 : DataW.trod enc Try.prog W base (fun _ => true) held nn 33 (List.take (Try.prog.cellsOf 33) (List.drop 0 [v0, v1])) = some y0 := hf 0 _ rfl
  have g1 : DataW.trod enc Try.prog W base (fun _ => true) held nn 27 (List.take (Try.prog.cellsOf 27) (List.drop 1 [v0, v1])) = some y1 := hf 1 _ rfl
  rw [cells33] at g0
  rw [cells27] at g1
  exact ⟨v0, v1, y0, y1, nn, rfl, by rw [hy]; rfl, g0, g1⟩

theorem weights_all {e : TypeId} {d : DataW H} {n : Nat} : ∀ {ds : List (DataW H)}, d ∈ ds → n ∈ d.weights Try.prog e → n ∈ DataW.weightsAll Try.prog e ds
  | [], h, _ => by cases h
  | d0 :: ds, h, hn => by
    simp only [DataW.weightsAll, List.mem_append]
    rcases List.mem_cons.1 h with rfl | h
    · exact Or.inl hn
    · exact Or.inr (weights_all h hn)

theorem open_fares {fuel : Nat} {a : Option Addr} {len cap : Nat} {x : DataW H × List MemPlace} (h : DataW.trod enc Try.prog W base (fun _ => true) held fuel 22 (Value.slice a len cap).cells.toList = some x) (hsz : ∀ n ∈ x.1.weights Try.prog 22, n ≤ reachBytes) :
    ∃ fs : List (Nat × List Nat), Fl W (.slice a len cap) fs ∧ Wf fs ∧ fs.length * 32 ≤ reachBytes ∧ ∀ k, (csA fs k).length * 8 ≤ reachBytes := by
  rcases open_slice Try.underlying22 h with ⟨hcs, rfl⟩ | ⟨a', len', cap', m, n', D, Pl, hcs, _, hl, hm, hmm, rfl, hi⟩
  · simp [Value.cells] at hcs
    obtain ⟨rfl, rfl, rfl⟩ := hcs
    exact ⟨[], ⟨none, 0, rfl, Nat.le_refl _, by unfold maxLen; omega, fun _ => rfl, Or.inl rfl⟩, ⟨fun k => by show (0 : Nat) < _; decide, fun k j => by show at0 [] j < _; rw [at0_ge (Nat.zero_le _)]; decide⟩, by simp [reachBytes], fun k => by show [].length * 8 ≤ _; simp [reachBytes]⟩
  · simp [Value.cells] at hcs
    obtain ⟨rfl, rfl, rfl⟩ := hcs
    simp only [if_true] at hmm
    subst hmm
    have hel : ∀ i, i < len → ∃ f : Nat × List Nat, ∃ cv, W.cell? (a'.add (i * 2)) = some (.float .f64 f.1) ∧ W.cell? (a'.add (i * 2 + 1)) = some cv ∧ Sl W cv (Fb f.2) ∧ f.1 < 18446744073709551616 ∧ (∀ j, at0 f.2 j < 18446744073709551616) ∧ f.2.length * 8 ≤ reachBytes := by
      intro i him
      obtain ⟨cs', hc, ht⟩ := hi i (by omega)
      rw [cells48] at hc
      obtain ⟨_, hcl, hat⟩ := World.cells?_some hc
      obtain ⟨v0, v1, y0, y1, nn, rfl, hD, t0, t1⟩ := open_elem ht
      obtain ⟨b, e0, _, hb⟩ := trod_float t0
      obtain ⟨v, l, e1, hs, hlt, hnl⟩ := open_floats t1
      injection e0 with e0 _
      injection e1 with e1 _
      subst e0 e1
      have c0 := hat 0 (by omega)
      have c1 := hat 1 (by omega)
      rw [add_add] at c0 c1
      have hD' : D i = .agg [y0.1, y1.1] := hD
      refine ⟨(b, l), v1, c0, c1, hs, hb, hlt, ?_⟩
      rcases hnl with ⟨_, rfl⟩ | ⟨elems, spare, he, hle⟩
      · simp [reachBytes]
      · have hmem : (elems.length + spare.length) * Try.prog.bytesOf 33 ∈ (D i).weights Try.prog 48 := by
          rw [hD']
          simp only [DataW.weights, Try.underlying48, DataW.weightsEach, he, Try.underlying27, List.map, List.mem_append]
          right; left
          exact List.mem_cons_self ..
        have hin : (elems.length + spare.length) * Try.prog.bytesOf 33 ∈ (DataW.slice (List.map D (List.range len)) (List.map (fun j => D (len + j)) (List.range (m - len)))).weights Try.prog 22 := by
          simp only [DataW.weights, Try.underlying22, List.mem_cons, List.mem_append]
          exact Or.inr (Or.inl (weights_all (List.mem_map_of_mem (List.mem_range.2 him)) hmem))
        have := hsz _ hin
        rw [bytes33] at this
        show l.length * 8 ≤ reachBytes
        omega
    obtain ⟨f, hf⟩ := choose_lt hel
    have hget : ∀ j, j < len → ((List.range len).map f)[j]? = some (f j) := fun j hj => by simp [hj]
    have hpr : ∀ k, prA ((List.range len).map f) k = if k < len then (f k).1 else 0 := by
      intro k
      unfold prA
      by_cases c : k < len
      · rw [if_pos c]; simp [c]
      · rw [if_neg c]; simp [c]
    have hcs : ∀ k, csA ((List.range len).map f) k = if k < len then (f k).2 else [] := by
      intro k
      unfold csA
      by_cases c : k < len
      · rw [if_pos c]; simp [c]
      · rw [if_neg c]; simp [c]
    refine ⟨(List.range len).map f, ⟨some a', m, by simp, by simp; exact hl, hm, (fun h => by cases h), ?_⟩, ⟨fun k => ?_, fun k j => ?_⟩, ?_, fun k => ?_⟩
    · by_cases h0 : len = 0
      · left; rw [h0]; rfl
      · right
        obtain ⟨cv, c0, _⟩ := hf 0 (by omega)
        obtain ⟨b, off, spot⟩ := a'
        have hspot : spot = none := by simpa [Addr.add] using World.cell?_spot c0
        subst hspot
        have hblk : b < W.heap.size := World.block_lt_of_cell? W ⟨b, off, none⟩ (by simpa [Addr.add] using c0)
        refine ⟨b, off, rfl, hblk, fun j g hj => ?_⟩
        have hjl : j < len := by
          rcases Nat.lt_or_ge j len with h | h
          · exact h
          · rw [List.getElem?_eq_none (by simp; exact h)] at hj; cases hj
        rw [hget j hjl] at hj
        injection hj with hj
        subst hj
        obtain ⟨cv, c0, c1, c2, _⟩ := hf j hjl
        rw [addr_add] at c0 c1
        exact ⟨cv, c0, c1, c2⟩
    · rw [hpr]
      split
      · rename_i hk; obtain ⟨cv, _, _, _, h4, _⟩ := hf k hk; exact h4
      · decide
    · rw [hcs]
      split
      · rename_i hk; obtain ⟨cv, _, _, _, _, h5, _⟩ := hf k hk; exact h5 j
      · rw [at0_ge (Nat.zero_le _)]; decide
    · have hin : ((List.map D (List.range len)).length + (List.map (fun j => D (len + j)) (List.range (m - len))).length) * Try.prog.bytesOf 48 ∈ (DataW.slice (List.map D (List.range len)) (List.map (fun j => D (len + j)) (List.range (m - len)))).weights Try.prog 22 := by
        simp only [DataW.weights, Try.underlying22, List.mem_cons]
        exact Or.inl trivial
      have := hsz _ hin
      rw [bytes48] at this
      simp at this ⊢
      omega
    · rw [hcs]
      split
      · rename_i hk; obtain ⟨cv, _, _, _, _, _, h6⟩ := hf k hk; exact h6
      · simp [reachBytes]
end
end Go.Proofs.Ytnaogcpcaabbhaa
