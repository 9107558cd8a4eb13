/- The plain law of CrcLinear: the sum of three rows turned into one. -/
import Derived.Test.YtffkegfhnlkonaaDoorMendsPlain
namespace Go.Proofs.YtffkegfhnlkonaaDoor
open Go.RowKit CrcPlain

theorem wd_xor (a b : BitVec 8) : wd (a ^^^ b) = wd a ^^^ wd b := by simp [wd]

theorem ws_zip : ∀ (a b : List (BitVec 8)), ws (List.zipWith (· ^^^ ·) a b) = List.zipWith (· ^^^ ·) (ws a) (ws b)
  | [], _ => by simp [ws]
  | _ :: _, [] => by simp [ws]
  | x :: a, y :: b => by
    have h := ws_zip a b
    simp only [ws, List.zipWith_cons_cons, List.map_cons, wd_xor] at h ⊢
    rw [h]

/-- three rows turned into one -/
def xor3 (a b c : List (BitVec 8)) (n : Nat) : List (BitVec 8) := List.zipWith (· ^^^ ·) (List.zipWith (· ^^^ ·) (a.take n) (b.take n)) (c.take n)
theorem xor3_len {a b c : List (BitVec 8)} {n : Nat} (ha : n ≤ a.length) (hb : n ≤ b.length) (hc : n ≤ c.length) : (xor3 a b c n).length = n := by
  simp [xor3]; omega

theorem not3 (x y z : BitVec 32) : ~~~ (x ^^^ y ^^^ z) = ~~~ x ^^^ ~~~ y ^^^ ~~~ z := by
  apply BitVec.eq_of_getLsbD_eq
  intro i hi
  simp only [BitVec.getLsbD_not, BitVec.getLsbD_xor, hi, decide_true, Bool.true_and]
  cases x.getLsbD i <;> cases y.getLsbD i <;> cases z.getLsbD i <;> rfl

theorem linear (a b c : List (BitVec 8)) (n : Nat) (ha : n ≤ a.length) (hb : n ≤ b.length) (hc : n ≤ c.length) :
    more 0#32 (ws (xor3 a b c n)) = more 0#32 (ws (a.take n)) ^^^ more 0#32 (ws (b.take n)) ^^^ more 0#32 (ws (c.take n)) := by
  unfold more xor3
  rw [ws_zip, ws_zip]
  have e : ~~~ (0#32) = (~~~ (0#32) ^^^ ~~~ (0#32)) ^^^ ~~~ (0#32) := by decide
  have l1 : (ws (a.take n)).length = (ws (b.take n)).length := by simp [ws]; omega
  have l2 : (List.zipWith (· ^^^ ·) (ws (a.take n)) (ws (b.take n))).length = (ws (c.take n)).length := by simp [ws]; omega
  rw [show run (~~~ 0#32) (List.zipWith (· ^^^ ·) (List.zipWith (· ^^^ ·) (ws (a.take n)) (ws (b.take n))) (ws (c.take n))) = run ((~~~ (0#32) ^^^ ~~~ (0#32)) ^^^ ~~~ (0#32)) (List.zipWith (· ^^^ ·) (List.zipWith (· ^^^ ·) (ws (a.take n)) (ws (b.take n))) (ws (c.take n))) from by rw [← e],
    run_xor _ _ _ _ l2, run_xor _ _ _ _ l1, not3]

/-- the row as it stands at the k-th round -/
def rowTo (x : List (BitVec 8)) (n k : Nat) : List (BitVec 8) := x.take k ++ List.replicate (n - k) 0#8
theorem rowTo_zero (x : List (BitVec 8)) (n : Nat) : rowTo x n 0 = List.replicate n 0#8 := by simp [rowTo]
theorem rowTo_all {x : List (BitVec 8)} {n : Nat} (h : x.length = n) : rowTo x n n = x := by simp [rowTo, ← h]
theorem rowTo_len {x : List (BitVec 8)} {n k : Nat} (h : x.length = n) (hk : k ≤ n) : (rowTo x n k).length = n := by simp [rowTo]; omega
theorem rowTo_next {x : List (BitVec 8)} {n k : Nat} (h : x.length = n) (hk : k < n) : (rowTo x n k).set k (x[k]'(by omega)) = rowTo x n (k + 1) := by
  unfold rowTo
  have h1 : (x.take k).length = k := by simp; omega
  have h2 : n - k = (n - (k + 1)) + 1 := by omega
  rw [List.set_append_right _ _ (by omega), h1, Nat.sub_self, h2, List.replicate_succ, List.set_cons_zero]
  rw [show x.take (k + 1) = x.take k ++ [x[k]'(by omega)] from by simp, List.append_assoc]
  rfl
theorem xor3_get {a b c : List (BitVec 8)} {n k : Nat} (ha : n ≤ a.length) (hb : n ≤ b.length) (hc : n ≤ c.length) (hk : k < n) :
    (xor3 a b c n)[k]'(by rw [xor3_len ha hb hc]; exact hk) = a[k]'(by omega) ^^^ b[k]'(by omega) ^^^ c[k]'(by omega) := by
  simp [xor3]
end Go.Proofs.YtffkegfhnlkonaaDoor
