/- What seats are worth, as words of floats: a row's next one; that nothing overflows. (No program in sight.) -/
import Derived.Test.YtnaogcpcaabbhaaFarPlain
import Derived.Test.YtnaogcpcaabbhaaOddsPlain
namespace FloatPlain
open Ieee

/-- a product of two floats that are not negative -/
theorem mul_nn2 {a b k : Nat} (ha : Nn a) (hb : Nn b) (hk : k < inf) (h : mag a * mag b ≤ val k * wide) :
    double.mul a b = some (fmul a b) ∧ Nn (fmul a b) ∧ mag (fmul a b) ≤ val k ∧ (Pos a → Pos b → fmul a b ≤ k) := by
  rcases ha with ha | ha
  · have := mul_nn ha hb hk (by rw [← ha.mag]; exact h)
    exact ⟨this.1, this.2.1, this.2.2.1, fun _ => this.2.2.2⟩
  · obtain ⟨r, h1, h2⟩ := mul_fin a b (by rw [ha]; exact negz_fin) hb.fin
    have hm : mag a = 0 := by rw [ha, negz_mag]
    have hr : r = 0 := h2.exact (k := 0) (Nat.zero_le _) (by rw [hm, val_zero]; omega)
    rw [hr] at h1
    have hna : neg a = true := by rw [ha, negz_neg]
    rw [hna] at h1
    rcases hb with hb | hb
    · rw [hb.neg] at h1
      have hw : double.word (true ^^ false) 0 = negz := by decide
      rw [hw] at h1
      have hf : fmul a b = negz := by unfold fmul; rw [h1]; rfl
      rw [hf]
      exact ⟨h1, Or.inr rfl, by rw [negz_mag]; exact Nat.zero_le _, fun h => by rw [ha] at h; unfold Pos negz inf at h; omega⟩
    · have hnb : neg b = true := by rw [hb, negz_neg]
      rw [hnb] at h1
      have hw : double.word (true ^^ true) 0 = 0 := by decide
      rw [hw] at h1
      have hf : fmul a b = 0 := by unfold fmul; rw [h1]; rfl
      rw [hf]
      exact ⟨h1, zero_pos.nn, by rw [zero_pos.mag, val_zero]; exact Nat.zero_le _, fun h => by rw [ha] at h; unfold Pos negz inf at h; omega⟩

/-- a sum whose second part is not -0 -/
theorem add_nn {a b k : Nat} (ha : Nn a) (hb : Pos b) (h : mag a + val b ≤ val k) :
    double.add a b = some (fadd a b) ∧ fadd a b ≤ k ∧ b ≤ fadd a b := by
  obtain ⟨r, h1, h2⟩ := add_fin a b ha.fin hb.fin
  rw [ha.num, hb.num] at h2
  have e : ((mag a : Int) + (val b : Int)).natAbs = mag a + val b := by omega
  rw [e] at h2
  have hs : sumNeg a b = false := by
    unfold sumNeg
    rw [ha.num, hb.num, hb.neg]
    split
    · rw [Bool.and_false]
    · rw [decide_eq_false_iff_not]; omega
  rw [hs, word_false] at h1
  have hf : fadd a b = r := by unfold fadd; rw [h1]; rfl
  rw [hf]
  exact ⟨h1, h2.below k (by omega), h2.above b (Nat.le_of_lt hb) (by omega)⟩

theorem intW_pos {k : Nat} (h : k < 9007199254740992) : Pos (intW (k : Int)) ∧ val (intW (k : Int)) = k * wide := by
  obtain ⟨r, r1, r2, r3⟩ := intW_is (n := (k : Int)) (by omega)
  have e : decide ((k : Int) < 0) = false := by rw [decide_eq_false_iff_not]; omega
  rw [e, word_false] at r3
  rw [r3]
  exact ⟨r1, by rw [r2, Int.natAbs_natCast]⟩

/-! a row's next one -/
/-- k people at the price, and what is left -/
def vK (P : Nat) (w : List Nat) (x k : Nat) : Nat := fadd (fmul (intW (k : Int)) P) (at0 w (x - k))
/-- the best of what up to k people bring -/
def bestK (P : Nat) (w : List Nat) (x : Nat) : Nat → Nat
  | 0 => vK P w x 0
  | k + 1 => if k + 1 ≤ x then max (bestK P w x k) (vK P w x (k + 1)) else bestK P w x k
/-- the sum over the first k chances -/
def outK (P : Nat) (w cs : List Nat) (x : Nat) : Nat → Nat
  | 0 => 0
  | k + 1 => fadd (outK P w cs x k) (fmul (at0 cs k) (bestK P w x k))
def nextV (P : Nat) (cs w : List Nat) : List Nat := (List.range w.length).map fun x => outK P w cs x cs.length

theorem nextV_len (P : Nat) (cs w : List Nat) : (nextV P cs w).length = w.length := by simp [nextV]
theorem nextV_at0 (P : Nat) (cs w : List Nat) {x : Nat} (h : x < w.length) : at0 (nextV P cs w) x = outK P w cs x cs.length := by
  rw [at0_lt (by rw [nextV_len]; exact h)]; simp [nextV]

/-- a price -/
def Dear (P : Nat) : Prop := Nn P ∧ mag P ≤ val (two 40)
/-- a class' chances -/
def Likely (cs : List Nat) : Prop := 1 ≤ cs.length ∧ cs.length ≤ 256 ∧ ∀ k, k < cs.length → Lik (at0 cs k)

/-- the next row's operations all have a value -/
structure NextOk (P : Nat) (cs w : List Nat) : Prop where
  mu : ∀ k : Nat, k ≤ 256 → double.mul (intW (k : Int)) P = some (fmul (intW (k : Int)) P)
  ad : ∀ x k : Nat, k ≤ 256 → double.add (fmul (intW (k : Int)) P) (at0 w (x - k)) = some (vK P w x k)
  vp : ∀ x k : Nat, k ≤ 256 → Pos (vK P w x k)
  bp : ∀ x k : Nat, k ≤ 256 → Pos (bestK P w x k)
  mc : ∀ x k : Nat, k < cs.length → double.mul (at0 cs k) (bestK P w x k) = some (fmul (at0 cs k) (bestK P w x k))
  ac : ∀ x k : Nat, k < cs.length → double.add (outK P w cs x k) (fmul (at0 cs k) (bestK P w x k)) = some (outK P w cs x (k + 1))

theorem two_le {m n : Nat} (h : m ≤ n) : two m ≤ two n := by unfold two; omega

theorem mul_price {P : Nat} (h : Dear P) {k : Nat} (hk : k ≤ 256) : double.mul (intW (k : Int)) P = some (fmul (intW (k : Int)) P) ∧ Nn (fmul (intW (k : Int)) P) ∧ mag (fmul (intW (k : Int)) P) ≤ val (two 48) := by
  obtain ⟨p1, p2⟩ := intW_pos (k := k) (by omega)
  have hb : val (intW (k : Int)) * mag P ≤ val (two 48) * wide := by
    rw [p2]
    have e : val (two 48) = 256 * val (two 40) := by
      rw [val_two_pow, val_two_pow]
      rw [show (256 : Nat) = pow2 8 from by decide]
      exact (pow2_add_eq 8 (1074 + 40) (1074 + 48) (by omega)).symm
    rw [e]
    calc k * wide * mag P = k * mag P * wide := by rw [Nat.mul_right_comm]
      _ ≤ 256 * val (two 40) * wide := Nat.mul_le_mul_right _ (Nat.mul_le_mul hk h.2)
  have := mul_nn p1 h.1 (k := two 48) (by unfold two inf; omega) hb
  exact ⟨this.1, this.2.1, this.2.2.1⟩

theorem next_all {n : Nat} {P : Nat} {cs w : List Nat} (hw : RowB n w) (h1 : 48 ≤ n) (h2 : n ≤ 900) (hP : Dear P) (hc : Likely cs) :
    NextOk P cs w ∧ RowB (n + 12) (nextV P cs w) := by
  have V : ∀ x k : Nat, k ≤ 256 → double.add (fmul (intW (k : Int)) P) (at0 w (x - k)) = some (vK P w x k) ∧ vK P w x k ≤ two (n + 1) := by
    intro x k hk
    obtain ⟨m1, m2, m3⟩ := mul_price hP hk
    have h3 := add_nn m2 (hw.pos (by omega) (x - k)) (k := two (n + 1)) (by
      have h4 := val_le (hw (x - k))
      have h5 := val_le (two_le h1)
      rw [val_two]; omega)
    exact ⟨h3.1, h3.2.1⟩
  have B : ∀ x k : Nat, k ≤ 256 → bestK P w x k ≤ two (n + 1) := by
    intro x k
    induction k with
    | zero => intro h; exact (V x 0 h).2
    | succ k ih =>
      intro h
      unfold bestK
      split
      · exact Nat.max_le.2 ⟨ih (by omega), (V x (k + 1) h).2⟩
      · exact ih (by omega)
  have hp : ∀ m, m ≤ two (n + 1) → Pos m := fun m h => Nat.lt_of_le_of_lt h (two_pos (by omega))
  have M : ∀ x k : Nat, k < cs.length → double.mul (at0 cs k) (bestK P w x k) = some (fmul (at0 cs k) (bestK P w x k)) ∧ Nn (fmul (at0 cs k) (bestK P w x k)) ∧ mag (fmul (at0 cs k) (bestK P w x k)) ≤ val (two (n + 1)) := by
    intro x k hk
    have hl := hc.2.2 k hk
    have hb := B x k (by have := hc.2.1; omega)
    have h3 := mul_nn2 hl.nn (hp _ hb).nn (k := two (n + 1)) (two_pos (by omega)) (by
      rw [Nat.mul_comm, (hp _ hb).mag]
      exact Nat.mul_le_mul (val_le hb) hl.mag_le)
    exact ⟨h3.1, h3.2.1, h3.2.2.1⟩
  have O : ∀ x j : Nat, j ≤ cs.length → outK P w cs x j ≤ rung (n + 1) j ∧ ∀ i, i < j → double.add (outK P w cs x i) (fmul (at0 cs i) (bestK P w x i)) = some (outK P w cs x (i + 1)) := by
    intro x j
    induction j with
    | zero => intro _; exact ⟨Nat.zero_le _, fun i hi => absurd hi (by omega)⟩
    | succ j ih =>
      intro hj
      have hl := hc.2.1
      obtain ⟨a1, a2⟩ := ih (by omega)
      obtain ⟨_, m2, m3⟩ := M x j (by omega)
      have hpo : Pos (outK P w cs x j) := by
        refine Nat.lt_of_le_of_lt a1 ?_
        unfold rung two inf; omega
      have h3 := add_pos hpo m2 (k := rung (n + 1) (j + 1)) (by
        have h4 := val_le a1
        rw [val_rung _ _ (by omega)] at h4 ⊢
        rw [val_two_pow] at m3
        rw [Nat.add_mul, Nat.one_mul]
        omega)
      refine ⟨h3.2.1, fun i hi' => ?_⟩
      by_cases e : i = j
      · subst e; exact h3.1
      · exact a2 i (by omega)
  refine ⟨⟨fun k hk => (mul_price hP hk).1, fun x k hk => (V x k hk).1, fun x k hk => hp _ (V x k hk).2, fun x k hk => hp _ (B x k hk), fun x k hk => (M x k hk).1, fun x k hk => (O x (k + 1) (by omega)).2 k (by omega)⟩, fun x => ?_⟩
  rcases Nat.lt_or_ge x w.length with c | c
  · rw [nextV_at0 _ _ _ c]
    refine Nat.le_trans (O x cs.length (Nat.le_refl _)).1 ?_
    have := hc.2.1
    unfold rung two; omega
  · rw [at0_ge (by rw [nextV_len]; exact c)]
    exact Nat.zero_le _

theorem outK_pos {n : Nat} {P : Nat} {cs w : List Nat} (hw : RowB n w) (h1 : 48 ≤ n) (h2 : n ≤ 900) (hP : Dear P) (hc : Likely cs) (x : Nat) (h : x < w.length) : Pos (outK P w cs x cs.length) := by
  have h3 := (next_all hw h1 h2 hP hc).2
  rw [← nextV_at0 P cs w h]
  exact h3.pos (by omega) x

/-! of all classes -/
def worth (fs : List (Nat × List Nat)) (w : List Nat) : List Nat := fs.foldl (fun w f => nextV f.1 f.2 w) w
theorem worth_len (fs : List (Nat × List Nat)) (w : List Nat) : (worth fs w).length = w.length := by
  induction fs generalizing w with
  | nil => rfl
  | cons f fs ih => show (worth fs (nextV f.1 f.2 w)).length = _; rw [ih, nextV_len]
theorem worth_snoc (fs : List (Nat × List Nat)) (f : Nat × List Nat) (w : List Nat) : worth (fs ++ [f]) w = nextV f.1 f.2 (worth fs w) := by
  simp [worth]
def Classes (fs : List (Nat × List Nat)) : Prop := ∀ f ∈ fs, Dear f.1 ∧ Likely f.2
theorem worth_bound {fs : List (Nat × List Nat)} (h : Classes fs) {n : Nat} {w : List Nat} (hw : RowB n w) (h1 : 48 ≤ n) (h2 : n + 12 * fs.length ≤ 912) : RowB (n + 12 * fs.length) (worth fs w) := by
  induction fs generalizing w n with
  | nil => exact hw
  | cons f fs ih =>
    have hf := h f (List.mem_cons_self ..)
    have hl : (f :: fs).length = fs.length + 1 := rfl
    rw [hl] at h2 ⊢
    have := ih (fun g hg => h g (List.mem_cons_of_mem _ hg)) (next_all hw h1 (by omega) hf.1 hf.2).2 (by omega) (by omega)
    rw [show n + 12 + 12 * fs.length = n + 12 * (fs.length + 1) from by omega] at this
    exact this
theorem zeros_bound (m : Nat) : RowB 48 (List.replicate m 0) := by
  intro k
  have : at0 (List.replicate m 0) k = 0 := by
    unfold at0
    rw [List.getD_eq_getElem?_getD, List.getElem?_replicate]
    split <;> rfl
  rw [this]; exact Nat.zero_le _
theorem classes_take {fs : List (Nat × List Nat)} (h : Classes fs) (k : Nat) : Classes (fs.take k) := fun f hf => h f (List.mem_of_mem_take hf)
end FloatPlain
