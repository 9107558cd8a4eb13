/- What Patch puts in brings the sum that was wanted; to its own sum a row is patched to itself: the plain law. -/
import Derived.Test.YtffkegfhnlkonaaDoorPatch
namespace Go.Proofs.YtffkegfhnlkonaaDoor
open CrcPlain

theorem ws_app (a b : List (BitVec 8)) : ws (a ++ b) = ws a ++ ws b := by simp [ws]

theorem ws_bytes (x : BitVec 32) : ws ((List.range 4).map (b8 x)) = [byteAt x 0, byteAt x 1, byteAt x 2, byteAt x 3] := by
  simp only [ws, List.range, List.range.loop, List.map_cons, List.map_nil, wd_b8]

theorem patchWord_gap (want : BitVec 32) (l : List (BitVec 8)) (p : Nat) : patchWord want l p = gap (run (~~~ 0#32) (ws (l.take p))) (unrun (~~~ want) (ws (l.drop (p + 4)))) := by
  unfold patchWord gap backTo
  rw [if_neg (by omega), show 8 * (p + 4 - p) = 32 by omega]

theorem patch_sum (want : BitVec 32) (l : List (BitVec 8)) (p : Nat) : more 0#32 (ws (patchTo (patchWord want l p) l p 4)) = want := by
  unfold patchTo more
  rw [ws_app, ws_app, run_append, run_append, ws_bytes, patchWord_gap, run_gap, run_unrun, CrcPlain.not_not]

/-- four bytes as a number -/
def word4 (b0 b1 b2 b3 : BitVec 8) : BitVec 32 := (b3 ++ b2 ++ b1 ++ b0 : BitVec (8 + 8 + 8 + 8))

theorem word4_bit (b0 b1 b2 b3 : BitVec 8) (i : Nat) : (word4 b0 b1 b2 b3).getLsbD i = if i < 8 then b0.getLsbD i else if i - 8 < 8 then b1.getLsbD (i - 8) else if i - 8 - 8 < 8 then b2.getLsbD (i - 8 - 8) else b3.getLsbD (i - 8 - 8 - 8) := by
  unfold word4
  show (b3 ++ b2 ++ b1 ++ b0 : BitVec (8 + 8 + 8 + 8)).getLsbD i = _
  rw [BitVec.getLsbD_append, BitVec.getLsbD_append, BitVec.getLsbD_append]

theorem b8_bit (x : BitVec 32) (i j : Nat) (hj : j < 8) : (b8 x i).getLsbD j = x.getLsbD (8 * i + j) := by
  unfold b8
  rw [BitVec.getLsbD_setWidth, BitVec.getLsbD_ushiftRight]
  simp [hj]

theorem b8_word4 (b0 b1 b2 b3 : BitVec 8) : (List.range 4).map (b8 (word4 b0 b1 b2 b3)) = [b0, b1, b2, b3] := by
  have h0 : b8 (word4 b0 b1 b2 b3) 0 = b0 := by
    apply BitVec.eq_of_getLsbD_eq
    intro j hj
    rw [b8_bit _ _ _ hj, word4_bit, if_pos (by omega), show 8 * 0 + j = j by omega]
  have h1 : b8 (word4 b0 b1 b2 b3) 1 = b1 := by
    apply BitVec.eq_of_getLsbD_eq
    intro j hj
    rw [b8_bit _ _ _ hj, word4_bit, if_neg (by omega), if_pos (by omega), show 8 * 1 + j - 8 = j by omega]
  have h2 : b8 (word4 b0 b1 b2 b3) 2 = b2 := by
    apply BitVec.eq_of_getLsbD_eq
    intro j hj
    rw [b8_bit _ _ _ hj, word4_bit, if_neg (by omega), if_neg (by omega), if_pos (by omega), show 8 * 2 + j - 8 - 8 = j by omega]
  have h3 : b8 (word4 b0 b1 b2 b3) 3 = b3 := by
    apply BitVec.eq_of_getLsbD_eq
    intro j hj
    rw [b8_bit _ _ _ hj, word4_bit, if_neg (by omega), if_neg (by omega), if_neg (by omega), show 8 * 3 + j - 8 - 8 - 8 = j by omega]
  simp only [List.range, List.range.loop, List.map_cons, List.map_nil, h0, h1, h2, h3]

theorem four (l : List (BitVec 8)) (p : Nat) (h : p + 4 ≤ l.length) : ∃ b0 b1 b2 b3, l = l.take p ++ [b0, b1, b2, b3] ++ l.drop (p + 4) := by
  refine ⟨l[p], l[p + 1], l[p + 2], l[p + 3], ?_⟩
  have h1 : l.drop p = l[p] :: l.drop (p + 1) := List.drop_eq_getElem_cons (by omega)
  have h2 : l.drop (p + 1) = l[p + 1] :: l.drop (p + 2) := List.drop_eq_getElem_cons (by omega)
  have h3 : l.drop (p + 2) = l[p + 2] :: l.drop (p + 3) := List.drop_eq_getElem_cons (by omega)
  have h4 : l.drop (p + 3) = l[p + 3] :: l.drop (p + 4) := List.drop_eq_getElem_cons (by omega)
  have h5 := (List.take_append_drop p l).symm
  rw [h1, h2, h3, h4] at h5
  rw [List.append_assoc]
  exact h5

theorem patchTo_take (x : BitVec 32) (l : List (BitVec 8)) (p : Nat) (h : p + 4 ≤ l.length) : (patchTo x l p 4).take p = l.take p := by
  unfold patchTo
  have : (l.take p).length = p := by simp; omega
  rw [List.append_assoc, List.take_append_of_le_length (by omega), List.take_of_length_le (by omega)]

theorem patchTo_drop (x : BitVec 32) (l : List (BitVec 8)) (p : Nat) (h : p + 4 ≤ l.length) : (patchTo x l p 4).drop (p + 4) = l.drop (p + 4) := by
  unfold patchTo
  have : (l.take p ++ (List.range 4).map (b8 x)).length = p + 4 := by simp; omega
  rw [List.drop_append_of_le_length (by omega), List.drop_of_length_le (by omega), List.nil_append]

/-- patched again, to the first one's sum -/
theorem patch_back (want : BitVec 32) (l : List (BitVec 8)) (p : Nat) (h : p + 4 ≤ l.length) :
    patchTo (patchWord (more 0#32 (ws l)) (patchTo (patchWord want l p) l p 4) p) (patchTo (patchWord want l p) l p 4) p 4 = l := by
  obtain ⟨b0, b1, b2, b3, hl⟩ := four l p h
  have hX : patchWord (more 0#32 (ws l)) (patchTo (patchWord want l p) l p 4) p = word4 b0 b1 b2 b3 := by
    rw [patchWord_gap, patchTo_take _ _ _ h, patchTo_drop _ _ _ h]
    have h1 : ~~~ (more 0#32 (ws l)) = run (run (run (~~~ 0#32) (ws (l.take p))) (ws [b0, b1, b2, b3])) (ws (l.drop (p + 4))) := by
      unfold more
      rw [CrcPlain.not_not, ← run_append, ← run_append, ← ws_app, ← ws_app, ← List.append_assoc, ← hl]
    rw [h1, unrun_run]
    unfold gap
    rw [← b8_word4 b0 b1 b2 b3, ws_bytes, run_word, unsteps_steps, BitVec.xor_comm, ← BitVec.xor_assoc, BitVec.xor_self, BitVec.zero_xor]
  rw [hX]
  have h2 : patchTo (word4 b0 b1 b2 b3) (patchTo (patchWord want l p) l p 4) p 4 = l.take p ++ (List.range 4).map (b8 (word4 b0 b1 b2 b3)) ++ l.drop (p + 4) := by
    show (patchTo (patchWord want l p) l p 4).take p ++ _ ++ (patchTo (patchWord want l p) l p 4).drop (p + 4) = _
    rw [patchTo_take _ _ _ h, patchTo_drop _ _ _ h]
  rw [h2, b8_word4, ← hl]
end Go.Proofs.YtffkegfhnlkonaaDoor
