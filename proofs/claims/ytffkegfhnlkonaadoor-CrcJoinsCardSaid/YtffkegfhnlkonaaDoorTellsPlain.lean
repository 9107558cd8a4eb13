/- Rows that are unlike within 32 bits in order have unlike sums: the plain law. -/
import Derived.Test.YtffkegfhnlkonaaDoorSums
namespace Go.Proofs.YtffkegfhnlkonaaDoor
open CrcPlain

/-- a bit as a number -/
def bit (b : Bool) : BitVec 32 := if b then 1#32 else 0#32
theorem bit_xor (a b : Bool) : bit (a ^^ b) = bit a ^^^ bit b := by cases a <;> cases b <;> decide

/-- a row of bits, gone through one by one -/
def R (r : BitVec 32) (f : Nat → Bool) : Nat → BitVec 32
  | 0 => r
  | n + 1 => CrcPlain.step (R r f n ^^^ bit (f n))

theorem R_xor (r s : BitVec 32) (f g : Nat → Bool) (n : Nat) : R (r ^^^ s) (fun i => f i ^^ g i) n = R r f n ^^^ R s g n := by
  induction n with
  | zero => rfl
  | succ n ih =>
    show CrcPlain.step (R (r ^^^ s) _ n ^^^ bit (f n ^^ g n)) = CrcPlain.step (R r f n ^^^ bit (f n)) ^^^ CrcPlain.step (R s g n ^^^ bit (g n))
    rw [ih, bit_xor, ← step_xor]
    congr 1
    ac_rfl

theorem R_congr (r : BitVec 32) (f g : Nat → Bool) (n : Nat) (h : ∀ i, i < n → f i = g i) : R r f n = R r g n := by
  induction n with
  | zero => rfl
  | succ n ih =>
    show CrcPlain.step (R r f n ^^^ bit (f n)) = CrcPlain.step (R r g n ^^^ bit (g n))
    rw [ih (fun i hi => h i (by omega)), h n (by omega)]

/-- the bits of a row of bytes, in order -/
def bitAt (l : List (BitVec 8)) (i : Nat) : Bool := (l.getD (i / 8) 0#8).getLsbD (i % 8)

theorem low_bits (x : BitVec 32) (k : Nat) (hk : k < 32) : low x (k + 1) = low x k ^^^ (bit (x.getLsbD k) <<< k) := by
  rw [low_succ x k hk]
  cases h : x.getLsbD k
  · rw [if_neg (by simp)]; simp [bit]
  · rw [if_pos rfl]; rfl

theorem steps_bit (b : Bool) (k : Nat) (hk : k < 32) : steps k (bit b <<< k) = bit b := by
  have h := steps_shl (bit b) k k (Nat.le_refl _) (fun i hi => by
    cases b
    · simp [bit]
    · show (1#32).getLsbD i = false
      rw [BitVec.getLsbD_one]
      have : ¬ i = 0 := by omega
      simp [this])
  rw [h, Nat.sub_self, BitVec.shiftLeft_zero]

/-- k bits of a number, from r on -/
theorem R_low (r : BitVec 32) (f : Nat → Bool) (p : Nat) (x : BitVec 32) (hf : ∀ i, i < 32 → f (p + i) = x.getLsbD i) : ∀ k, k ≤ 32 → R r f (p + k) = steps k (R r f p ^^^ low x k) := by
  intro k
  induction k with
  | zero =>
    intro _
    have : low x 0 = 0#32 := by unfold low; simp
    rw [this, BitVec.xor_zero]; rfl
  | succ k ih =>
    intro hk
    show CrcPlain.step (R r f (p + k) ^^^ bit (f (p + k))) = _
    rw [ih (by omega), hf k (by omega), low_bits x k (by omega), ← BitVec.xor_assoc, steps_succ']
    congr 1
    rw [steps_xor, steps_xor, steps_xor, steps_bit _ k (by omega)]

theorem R_low8 (r : BitVec 32) (f : Nat → Bool) (p : Nat) (b : BitVec 8) (hf : ∀ i, i < 8 → f (p + i) = b.getLsbD i) : R r f (p + 8) = byte (R r f p) (wd b) := by
  have h := R_low r (fun i => if i < p + 8 then f i else (wd b).getLsbD (i - p)) p (wd b) (fun i hi => by
    show (if p + i < p + 8 then f (p + i) else _) = _
    unfold wd
    by_cases c : i < 8
    · rw [if_pos (by omega), hf i c, BitVec.getLsbD_setWidth]; simp [hi]
    · rw [if_neg (by omega), show p + i - p = i by omega]) 8 (by omega)
  have e1 := R_congr r f (fun i => if i < p + 8 then f i else (wd b).getLsbD (i - p)) (p + 8) (fun i hi => (if_pos hi).symm)
  have e2 := R_congr r f (fun i => if i < p + 8 then f i else (wd b).getLsbD (i - p)) p (fun i hi => (if_pos (show i < p + 8 by omega)).symm)
  rw [e1, h, ← e2]
  unfold byte
  congr 2
  apply BitVec.eq_of_getLsbD_eq
  intro i hi
  rw [low_bit]
  unfold wd
  rw [BitVec.getLsbD_setWidth]
  by_cases c : i < 8
  · simp [c]
  · rw [BitVec.getLsbD_of_ge b i (by omega)]; simp

theorem run_R (r : BitVec 32) (l : List (BitVec 8)) : ∀ k, k ≤ l.length → run r (ws (l.take k)) = R r (bitAt l) (8 * k) := by
  intro k
  induction k with
  | zero => intro _; rfl
  | succ k ih =>
    intro hk
    rw [run_take r l k (by omega), ih (by omega), show 8 * (k + 1) = 8 * k + 8 by omega]
    rw [R_low8 r (bitAt l) (8 * k) l[k] (fun i hi => by
      unfold bitAt
      rw [show (8 * k + i) / 8 = k by omega, show (8 * k + i) % 8 = i by omega]
      simp [List.getD, List.getElem?_eq_getElem (show k < l.length by omega)])]

theorem run_all (r : BitVec 32) (l : List (BitVec 8)) : run r (ws l) = R r (bitAt l) (8 * l.length) := by
  have := run_R r l l.length (Nat.le_refl _)
  rwa [List.take_of_length_le (Nat.le_refl _)] at this

/-- bits of a window -/
def win (p : Nat) (x : BitVec 32) (k i : Nat) : Bool := decide (p ≤ i) && decide (i < p + k) && x.getLsbD (i - p)

theorem R_noughts (f : Nat → Bool) (n : Nat) (h : ∀ i, i < n → f i = false) : R 0#32 f n = 0#32 := by
  induction n with
  | zero => rfl
  | succ n ih =>
    show CrcPlain.step (R 0#32 f n ^^^ bit (f n)) = _
    rw [ih (fun i hi => h i (by omega)), h n (by omega)]
    decide

theorem R_more (f : Nat → Bool) (r : BitVec 32) (q : Nat) : ∀ m, (∀ i, i < m → f (q + i) = false) → R r f (q + m) = steps m (R r f q) := by
  intro m
  induction m with
  | zero => intro _; rfl
  | succ m ih =>
    intro h
    show CrcPlain.step (R r f (q + m) ^^^ bit (f (q + m))) = _
    rw [ih (fun i hi => h i (by omega)), h m (by omega), steps_succ']
    simp [bit]

/-- a window that is not all noughts leaves something -/
theorem win_tells (p n : Nat) (x : BitVec 32) (hx : x ≠ 0#32) (hn : p + 32 ≤ n) : R 0#32 (win p x 32) n ≠ 0#32 := by
  intro h
  have h1 : R 0#32 (win p x 32) p = 0#32 := R_noughts _ p (fun i hi => by
    have : ¬ p ≤ i := by omega
    simp [win, this])
  have h2 := R_low 0#32 (win p x 32) p x (fun i hi => by
    have a : p ≤ p + i := by omega
    have c : p + i < p + 32 := by omega
    simp [win, a, hi]) 32 (Nat.le_refl _)
  have h3 := R_more (win p x 32) 0#32 (p + 32) (n - (p + 32)) (fun i hi => by
    have c : ¬ p + 32 + i < p + 32 := by omega
    unfold win
    rw [decide_eq_false c]; simp)
  rw [show p + 32 + (n - (p + 32)) = n by omega, h, h2, h1, BitVec.zero_xor, low_all, ← steps_add] at h3
  have h4 := steps_inj _ (h3.symm.trans (steps_zero _).symm)
  exact hx h4

/-- the row, the window's first k bits turned -/
def flipTo (l : List (BitVec 8)) (p : Nat) (x : BitVec 32) : Nat → List (BitVec 8)
  | 0 => l
  | k + 1 => if x.getLsbD k = true then (flipTo l p x k).set ((p + k) / 8) ((flipTo l p x k).getD ((p + k) / 8) 0#8 ^^^ (1#8 <<< ((p + k) % 8))) else flipTo l p x k

theorem flipTo_len (l : List (BitVec 8)) (p : Nat) (x : BitVec 32) (k : Nat) : (flipTo l p x k).length = l.length := by
  induction k with
  | zero => rfl
  | succ k ih => unfold flipTo; split <;> simp [ih]

theorem bitAt_set (l : List (BitVec 8)) (q : Nat) (h : q / 8 < l.length) (i : Nat) : bitAt (l.set (q / 8) (l.getD (q / 8) 0#8 ^^^ (1#8 <<< (q % 8)))) i = (bitAt l i ^^ decide (i = q)) := by
  unfold bitAt
  by_cases e : i / 8 = q / 8
  · rw [e]
    have hg : (l.set (q / 8) (l.getD (q / 8) 0#8 ^^^ (1#8 <<< (q % 8)))).getD (q / 8) 0#8 = l.getD (q / 8) 0#8 ^^^ (1#8 <<< (q % 8)) := by
      simp [List.getD, h]
    rw [hg, BitVec.getLsbD_xor, BitVec.getLsbD_shiftLeft, BitVec.getLsbD_one]
    congr 1
    have h8 : i % 8 < 8 := by omega
    by_cases c : i = q
    · subst c; simp [h8]
    · by_cases d : i % 8 < q % 8
      · simp [c, d]
      · have : ¬ i % 8 - q % 8 = 0 := by omega
        simp [c, this]
  · have hne : ¬ i = q := by intro h; exact e (by rw [h])
    have hg : (l.set (q / 8) (l.getD (q / 8) 0#8 ^^^ (1#8 <<< (q % 8)))).getD (i / 8) 0#8 = l.getD (i / 8) 0#8 := by
      simp [List.getD, show ¬ q / 8 = i / 8 from fun h => e h.symm]
    rw [hg]; simp [hne]

theorem flipTo_bit (l : List (BitVec 8)) (p : Nat) (x : BitVec 32) (h : p + 32 ≤ 8 * l.length) : ∀ k, k ≤ 32 → ∀ i, bitAt (flipTo l p x k) i = (bitAt l i ^^ win p x k i) := by
  intro k
  induction k with
  | zero =>
    intro _ i
    have : win p x 0 i = false := by
      unfold win
      by_cases c : p ≤ i
      · have : ¬ i < p := by omega
        simp [this]
      · simp [c]
    rw [this]; simp [flipTo]
  | succ k ih =>
    intro hk i
    have hw : win p x (k + 1) i = (win p x k i ^^ (decide (i = p + k) && x.getLsbD k)) := by
      unfold win
      by_cases c : i = p + k
      · subst c
        have a : p ≤ p + k := by omega
        simp
      · by_cases a : p ≤ i
        · have : i < p + (k + 1) ↔ i < p + k := by omega
          simp [c, a, this]
        · simp [a, c]
    unfold flipTo
    split
    · rename_i hx
      rw [bitAt_set _ _ (by rw [flipTo_len]; omega), ih (by omega), hw, hx]
      cases bitAt l i <;> cases win p x k i <;> simp
    · rename_i hx
      have : x.getLsbD k = false := by simpa using hx
      rw [ih (by omega), hw, this]; simp

theorem tells (l : List (BitVec 8)) (p : Nat) (x : BitVec 32) (hx : x ≠ 0#32) (h : p + 32 ≤ 8 * l.length) : more 0#32 (ws l) ≠ more 0#32 (ws (flipTo l p x 32)) := by
  intro he
  have h1 : run (~~~ 0#32) (ws l) = run (~~~ 0#32) (ws (flipTo l p x 32)) := by
    have := congrArg (fun y => ~~~ y) he
    simpa [more] using this
  rw [run_all, run_all, flipTo_len] at h1
  have h2 := R_congr (~~~ 0#32) (bitAt (flipTo l p x 32)) (fun i => bitAt l i ^^ win p x 32 i) (8 * l.length) (fun i _ => flipTo_bit l p x h 32 (Nat.le_refl _) i)
  have h3 := R_xor (~~~ 0#32) 0#32 (bitAt l) (win p x 32) (8 * l.length)
  rw [BitVec.xor_zero] at h3
  rw [h2, h3] at h1
  have h4 := win_tells p (8 * l.length) x hx h
  apply h4
  have := congrArg (fun y => R (~~~ 0#32) (bitAt l) (8 * l.length) ^^^ y) h1
  simp only [BitVec.xor_self, ← BitVec.xor_assoc, BitVec.zero_xor] at this
  exact this.symm
end Go.Proofs.YtffkegfhnlkonaaDoor
