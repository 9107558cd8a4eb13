/- A row with an error, and its next one. (No program in sight.) -/
import Derived.Test.YtnaogcpcaabbhaaHopePlain
namespace FloatPlain
open Ieee

def kap : Nat := pow2 1022
theorem kap_ep : 65536 * kap = ep := by
  unfold kap ep
  rw [show (65536 : Nat) = pow2 16 from by decide]
  exact pow2_add_eq 16 1022 1038 (by omega)

theorem two15 : val (two 15) = 32768 * wide := by
  rw [val_two_pow, show (32768 : Nat) = pow2 15 from by decide]
  unfold wide
  rw [Nat.mul_comm]
  exact (pow2_add_eq 1074 15 (1074 + 15) rfl).symm

/-- what is asked of a class and a row -/
structure Step (w cs : List Nat) (s p p0 E : Nat) : Prop where
  row : RowE w s p0 E
  hs : s ≤ 4
  hp : p ≤ p0
  hp0 : p0 ≤ 1000
  hE : E ≤ 1000 * ep
  one : ∀ k, k < cs.length → at0 cs k ≤ one
  len : cs.length ≤ 4
  sum : csum cs cs.length ≤ wide + 4 * kap

section
variable {w cs : List Nat} {s p p0 E : Nat}

theorem Step.w_bound (h : Step w cs s p p0 E) {x : Nat} (hx : x ≤ s) : val (at0 w x) ≤ 4001 * wide := by
  have h1 := h.row.bound x hx
  have h2 : p0 * wide ≤ 1000 * wide := Nat.mul_le_mul_right _ h.hp0
  have h3 : x * (p0 * wide + E) ≤ 4 * (p0 * wide + E) := Nat.mul_le_mul_right _ (by have := h.hs; omega)
  have h4 := h.hE
  have h5 := wide_ep
  generalize p0 * wide = q at *
  generalize x * (q + E) = y at *
  omega

theorem Step.vK (h : Step w cs s p p0 E) {x u : Nat} (hx : x ≤ s) (hu : u ≤ x) :
    Pos (vK (intW (p : Int)) w x u) ∧ val (FloatPlain.vK (intW (p : Int)) w x u) ≤ u * (p * wide) + val (at0 w (x - u)) + ep ∧ u * (p * wide) + val (at0 w (x - u)) ≤ val (FloatPlain.vK (intW (p : Int)) w x u) + ep ∧ val (FloatPlain.vK (intW (p : Int)) w x u) ≤ 8002 * wide := by
  have hs := h.hs
  have hp := h.hp
  have hp0 := h.hp0
  have hup : u * p ≤ 4 * 1000 := Nat.mul_le_mul (by omega) (by omega)
  have hf := fmul_int (u := u) (p := p) (by omega) (by omega) (by omega)
  obtain ⟨c1, c2⟩ := intW_pos (k := u * p) (by omega)
  have hb := h.w_bound (x := x - u) (by omega)
  have hup2 : u * p * wide ≤ 4000 * wide := Nat.mul_le_mul_right _ hup
  have n := add_near c1 (h.row.pos (x - u))
  rw [c2] at n
  have e : u * (p * wide) = u * p * wide := (Nat.mul_assoc _ _ _).symm
  rw [e]
  have hd : FloatPlain.vK (intW (p : Int)) w x u = fadd (intW ((u * p : Nat) : Int)) (at0 w (x - u)) := by
    unfold FloatPlain.vK; rw [hf]
  rw [hd]
  have hpos := add_pos c1 (h.row.pos (x - u)).nn (k := two 15) (by
    rw [c2, (h.row.pos (x - u)).mag, two15]
    generalize u * p * wide = a at *
    generalize wide = b at *
    omega)
  have hP : Pos (fadd (intW ((u * p : Nat) : Int)) (at0 w (x - u))) := Nat.lt_of_le_of_lt hpos.2.1 (two_pos (by omega))
  obtain ⟨k1, k2⟩ := near_ep n hP (by
    rw [Nat.mul_one]
    generalize u * p * wide = a at *
    generalize wide = b at *
    omega)
  rw [Nat.mul_one, Nat.mul_one] at k1 k2
  have h5 := wide_ep
  generalize u * p * wide = a at *
  generalize val (fadd (intW ((u * p : Nat) : Int)) (at0 w (x - u))) = V at *
  refine ⟨hP, k1, k2, ?_⟩
  omega

theorem Step.best (h : Step w cs s p p0 E) {x : Nat} (hx : x ≤ s) : ∀ k, Pos (bestK (intW (p : Int)) w x k) ∧ val (bestK (intW (p : Int)) w x k) ≤ 8002 * wide := by
  intro k
  induction k with
  | zero =>
    obtain ⟨a, _, _, b⟩ := h.vK hx (Nat.zero_le x)
    exact ⟨a, b⟩
  | succ k ih =>
    show Pos (if k + 1 ≤ x then max (bestK (intW (p : Int)) w x k) (FloatPlain.vK (intW (p : Int)) w x (k + 1)) else bestK (intW (p : Int)) w x k) ∧ val (if k + 1 ≤ x then max (bestK (intW (p : Int)) w x k) (FloatPlain.vK (intW (p : Int)) w x (k + 1)) else bestK (intW (p : Int)) w x k) ≤ _
    split
    · rename_i hk
      obtain ⟨a, _, _, b⟩ := h.vK hx hk
      rcases Nat.le_total (bestK (intW (p : Int)) w x k) (FloatPlain.vK (intW (p : Int)) w x (k + 1)) with c | c
      · rw [Nat.max_eq_right c]; exact ⟨a, b⟩
      · rw [Nat.max_eq_left c]; exact ih
    · exact ih

theorem val_max (a b c : Nat) (ha : val a ≤ c) (hb : val b ≤ c) : val (max a b) ≤ c := by
  rcases Nat.le_total a b with h | h
  · rw [Nat.max_eq_right h]; exact hb
  · rw [Nat.max_eq_left h]; exact ha

theorem Step.best_lip (h : Step w cs s p p0 E) {x : Nat} (hx : x < s) : ∀ k, val (bestK (intW (p : Int)) w (x + 1) k) ≤ val (bestK (intW (p : Int)) w x k) + (p0 * wide + E + 2 * ep) := by
  have hpw : p * wide ≤ p0 * wide := Nat.mul_le_mul_right _ h.hp
  have hl := h.row.lip x hx
  intro k
  induction k with
  | zero =>
    obtain ⟨_, a1, _, _⟩ := h.vK (x := x + 1) (u := 0) (by omega) (Nat.zero_le _)
    obtain ⟨_, _, b1, _⟩ := h.vK (x := x) (u := 0) (by omega) (Nat.zero_le _)
    show val (FloatPlain.vK (intW (p : Int)) w (x + 1) 0) ≤ val (FloatPlain.vK (intW (p : Int)) w x 0) + _
    rw [Nat.zero_mul, Nat.zero_add, Nat.sub_zero] at a1 b1
    omega
  | succ k ih =>
    have hm := val_le (best_mono (P := intW (p : Int)) (w := w) (x := x) (k := k))
    by_cases hk : k + 1 ≤ x + 1
    · have e : bestK (intW (p : Int)) w (x + 1) (k + 1) = max (bestK (intW (p : Int)) w (x + 1) k) (FloatPlain.vK (intW (p : Int)) w (x + 1) (k + 1)) := by
        show (if k + 1 ≤ x + 1 then _ else _) = _
        rw [if_pos hk]
      rw [e]
      apply val_max
      · omega
      · obtain ⟨_, a1, _, _⟩ := h.vK (x := x + 1) (u := k + 1) (by omega) hk
        obtain ⟨_, _, b1, _⟩ := h.vK (x := x) (u := k) (by omega) (by omega)
        have hv := val_le (vK_le_best (P := intW (p : Int)) (w := w) (x := x) k k (Nat.le_refl _) (by omega))
        rw [show x + 1 - (k + 1) = x - k from by omega, Nat.add_mul, Nat.one_mul] at a1
        omega
    · have e : bestK (intW (p : Int)) w (x + 1) (k + 1) = bestK (intW (p : Int)) w (x + 1) k := by
        show (if k + 1 ≤ x + 1 then _ else _) = _
        rw [if_neg hk]
      rw [e]
      omega

theorem Step.best_mon (h : Step w cs s p p0 E) {x : Nat} (hx : x < s) : ∀ k, val (bestK (intW (p : Int)) w x k) ≤ val (bestK (intW (p : Int)) w (x + 1) k) + (E + 2 * ep) := by
  have key : ∀ u, u ≤ x → val (FloatPlain.vK (intW (p : Int)) w x u) ≤ val (FloatPlain.vK (intW (p : Int)) w (x + 1) u) + (E + 2 * ep) := by
    intro u hu
    obtain ⟨_, a1, _, _⟩ := h.vK (x := x) (u := u) (by omega) hu
    obtain ⟨_, _, b1, _⟩ := h.vK (x := x + 1) (u := u) (by omega) (by omega)
    have hm := h.row.mono (x - u) (by omega)
    rw [show x - u + 1 = x + 1 - u from by omega] at hm
    omega
  intro k
  induction k with
  | zero => exact key 0 (Nat.zero_le _)
  | succ k ih =>
    have hm := val_le (best_mono (P := intW (p : Int)) (w := w) (x := x + 1) (k := k))
    by_cases hk : k + 1 ≤ x
    · have e : bestK (intW (p : Int)) w x (k + 1) = max (bestK (intW (p : Int)) w x k) (FloatPlain.vK (intW (p : Int)) w x (k + 1)) := by
        show (if k + 1 ≤ x then _ else _) = _
        rw [if_pos hk]
      rw [e]
      apply val_max
      · omega
      · have h1 := key (k + 1) hk
        have h2 := val_le (vK_le_best (P := intW (p : Int)) (w := w) (x := x + 1) (k + 1) (k + 1) (Nat.le_refl _) (by omega))
        omega
    · have e : bestK (intW (p : Int)) w x (k + 1) = bestK (intW (p : Int)) w x k := by
        show (if k + 1 ≤ x then _ else _) = _
        rw [if_neg hk]
      rw [e]
      omega

/-- a chance times the best -/
theorem Step.prod (h : Step w cs s p p0 E) {x k : Nat} (hx : x ≤ s) (hk : k < cs.length) :
    Pos (fmul (at0 cs k) (bestK (intW (p : Int)) w x k)) ∧ val (fmul (at0 cs k) (bestK (intW (p : Int)) w x k)) ≤ 8002 * wide ∧
    val (fmul (at0 cs k) (bestK (intW (p : Int)) w x k)) * wide ≤ val (at0 cs k) * val (bestK (intW (p : Int)) w x k) + ep * wide ∧
    val (at0 cs k) * val (bestK (intW (p : Int)) w x k) ≤ val (fmul (at0 cs k) (bestK (intW (p : Int)) w x k)) * wide + ep * wide := by
  obtain ⟨b1, b2⟩ := h.best hx k
  have ho := h.one k hk
  have hc : Pos (at0 cs k) := Nat.lt_of_le_of_lt ho one_pos
  have hv := val_le ho
  rw [val_one] at hv
  generalize bestK (intW (p : Int)) w x k = B at *
  generalize at0 cs k = c at *
  have hle := mul_nn2 hc.nn b1.nn (k := B) b1 (by rw [hc.mag, b1.mag, Nat.mul_comm]; exact Nat.mul_le_mul_left _ hv)
  have h3 := hle.2.2.2 hc b1
  have hP : Pos (fmul c B) := Nat.lt_of_le_of_lt h3 b1
  have h4 := val_le h3
  have n := mul_near hc b1
  have hA : val c * val B ≤ 32768 * (wide * wide) := by
    have h5 : val c * val B ≤ wide * (8002 * wide) := Nat.mul_le_mul hv b2
    have h6 : wide * (8002 * wide) = 8002 * (wide * wide) := Nat.mul_left_comm _ _ _
    rw [h6] at h5
    generalize wide * wide = y at *
    omega
  obtain ⟨k1, k2⟩ := near_ep n hP hA
  exact ⟨hP, Nat.le_trans h4 b2, k1, k2⟩

theorem Step.out (h : Step w cs s p p0 E) {x : Nat} (hx : x ≤ s) : ∀ k, k ≤ cs.length → Pos (outK (intW (p : Int)) w cs x k) ∧ val (outK (intW (p : Int)) w cs x k) ≤ k * (8003 * wide) ∧
    (∀ j, j + 1 = k → val (outK (intW (p : Int)) w cs x k) ≤ val (outK (intW (p : Int)) w cs x j) + val (fmul (at0 cs j) (bestK (intW (p : Int)) w x j)) + ep ∧ val (outK (intW (p : Int)) w cs x j) + val (fmul (at0 cs j) (bestK (intW (p : Int)) w x j)) ≤ val (outK (intW (p : Int)) w cs x k) + ep) := by
  intro k
  induction k with
  | zero => intro _; exact ⟨zero_pos, Nat.zero_le _, fun j hj => by omega⟩
  | succ k ih =>
    intro hk
    obtain ⟨a1, a2, _⟩ := ih (by omega)
    obtain ⟨t1, t2, _, _⟩ := h.prod hx (k := k) (by omega)
    have e : outK (intW (p : Int)) w cs x (k + 1) = fadd (outK (intW (p : Int)) w cs x k) (fmul (at0 cs k) (bestK (intW (p : Int)) w x k)) := rfl
    have hl := h.len
    have h3 : k * (8003 * wide) ≤ 3 * (8003 * wide) := Nat.mul_le_mul_right _ (by omega)
    have n := add_near a1 t1
    have hpos := add_pos a1 t1.nn (k := two 15) (by
      rw [t1.mag, two15]
      generalize k * (8003 * wide) = y at *
      generalize wide = b at *
      omega)
    have hP : Pos (fadd (outK (intW (p : Int)) w cs x k) (fmul (at0 cs k) (bestK (intW (p : Int)) w x k))) := Nat.lt_of_le_of_lt hpos.2.1 (two_pos (by omega))
    obtain ⟨k1, k2⟩ := near_ep n hP (by
      rw [Nat.mul_one]
      generalize k * (8003 * wide) = y at *
      generalize wide = b at *
      omega)
    rw [Nat.mul_one, Nat.mul_one] at k1 k2
    rw [e]
    refine ⟨hP, ?_, fun j hj => ?_⟩
    · have h5 := wide_ep
      rw [Nat.add_mul, Nat.one_mul]
      generalize k * (8003 * wide) = y at *
      omega
    · obtain rfl : j = k := by omega
      exact ⟨k1, k2⟩

theorem mul_step (a b1 b2 D : Nat) (h : b1 ≤ b2 + D) : a * b1 ≤ a * b2 + a * D := by
  have := Nat.mul_le_mul_left a h
  rwa [Nat.mul_add] at this

/-- two rows of sums, side by side -/
theorem Step.sums (h : Step w cs s p p0 E) {x y D : Nat} (hx : x ≤ s) (hy : y ≤ s) (hb : ∀ k, val (bestK (intW (p : Int)) w x k) ≤ val (bestK (intW (p : Int)) w y k) + D) :
    ∀ k, k ≤ cs.length → val (outK (intW (p : Int)) w cs x k) * wide ≤ val (outK (intW (p : Int)) w cs y k) * wide + csum cs k * D + k * (4 * (ep * wide)) := by
  intro k
  induction k with
  | zero => intro _; show val 0 * wide ≤ _; rw [val_zero, Nat.zero_mul]; exact Nat.zero_le _
  | succ k ih =>
    intro hk
    have i1 := ih (by omega)
    obtain ⟨_, _, a3⟩ := h.out hx (k + 1) hk
    obtain ⟨_, _, b3⟩ := h.out hy (k + 1) hk
    have a4 := (a3 k rfl).1
    have b4 := (b3 k rfl).2
    obtain ⟨_, _, p1, _⟩ := h.prod hx (k := k) (by omega)
    obtain ⟨_, _, _, q1⟩ := h.prod hy (k := k) (by omega)
    have m1 := mul_step (val (at0 cs k)) _ _ _ (hb k)
    have a5 := Nat.mul_le_mul_right wide a4
    have b5 := Nat.mul_le_mul_right wide b4
    rw [Nat.add_mul, Nat.add_mul] at a5 b5
    have e : csum cs (k + 1) * D = csum cs k * D + val (at0 cs k) * D := Nat.add_mul _ _ _
    rw [e, Nat.add_mul k 1, Nat.one_mul]
    generalize val (outK (intW (p : Int)) w cs x (k + 1)) * wide = o1 at *
    generalize val (outK (intW (p : Int)) w cs y (k + 1)) * wide = o2 at *
    generalize val (outK (intW (p : Int)) w cs x k) * wide = o3 at *
    generalize val (outK (intW (p : Int)) w cs y k) * wide = o4 at *
    generalize val (fmul (at0 cs k) (bestK (intW (p : Int)) w x k)) * wide = t1 at *
    generalize val (fmul (at0 cs k) (bestK (intW (p : Int)) w y k)) * wide = t2 at *
    generalize val (at0 cs k) * val (bestK (intW (p : Int)) w x k) = m2 at *
    generalize val (at0 cs k) * val (bestK (intW (p : Int)) w y k) = m3 at *
    generalize csum cs k * D = c1 at *
    generalize val (at0 cs k) * D = c2 at *
    generalize ep * wide = ew at *
    generalize k * (4 * ew) = kw at *
    omega

theorem mul_cancel_wide {a b c : Nat} (h : a * wide ≤ b * wide + c * wide) : a ≤ b + c := by
  rw [← Nat.add_mul] at h
  exact Nat.le_of_mul_le_mul_right h wide_pos

/-- the next row -/
theorem Step.next (h : Step w cs s p p0 E) (hl : w.length = s + 1) : RowE (nextV (intW (p : Int)) cs w) s p0 (2 * E + 20 * ep) := by
  have hlen := h.len
  have hw5 := wide_ep
  have hk5 := kap_ep
  have hE := h.hE
  have hq : p0 * wide ≤ 1000 * wide := Nat.mul_le_mul_right _ h.hp0
  have hkk : cs.length * (4 * (ep * wide)) ≤ 16 * ep * wide := by
    have h1 : cs.length * (4 * (ep * wide)) ≤ 4 * (4 * (ep * wide)) := Nat.mul_le_mul_right _ hlen
    have h2 : 4 * (4 * (ep * wide)) = 16 * ep * wide := by rw [← Nat.mul_assoc 4 4, ← Nat.mul_assoc]
    omega
  have at_x : ∀ x, x ≤ s → at0 (nextV (intW (p : Int)) cs w) x = outK (intW (p : Int)) w cs x cs.length := fun x hx => nextV_at0 _ _ _ (by omega)
  refine ⟨fun x => ?_, ?_, fun x hx => ?_, fun x hx => ?_⟩
  · rcases Nat.lt_or_ge x (s + 1) with c | c
    · rw [at_x x (by omega)]; exact (h.out (by omega) _ (Nat.le_refl _)).1
    · rw [at0_ge (by rw [nextV_len]; omega)]; exact zero_pos
  · rw [at_x 0 (Nat.zero_le _)]
    have hb : ∀ k, bestK (intW (p : Int)) w 0 k = 0 := by
      intro k
      induction k with
      | zero =>
        show fadd (fmul (intW ((0 : Nat) : Int)) (intW (p : Int))) (at0 w (0 - 0)) = 0
        have hp := h.hp
        have hp0 := h.hp0
        rw [fmul_int (u := 0) (by omega) (by omega) (by omega), Nat.zero_mul, h.row.zero]
        obtain ⟨c1, c2⟩ := intW_pos (k := 0) (by omega)
        rw [add_zero c1]
        exact val_inj (by rw [c2, val_zero, Nat.zero_mul])
      | succ k ih =>
        show (if k + 1 ≤ 0 then _ else bestK (intW (p : Int)) w 0 k) = 0
        rw [if_neg (by omega), ih]
    have ho : ∀ k, k ≤ cs.length → outK (intW (p : Int)) w cs 0 k = 0 := by
      intro k
      induction k with
      | zero => intro _; rfl
      | succ k ih =>
        intro hk
        show fadd (outK (intW (p : Int)) w cs 0 k) (fmul (at0 cs k) (bestK (intW (p : Int)) w 0 k)) = 0
        rw [ih (by omega), hb]
        have hc : Pos (at0 cs k) := Nat.lt_of_le_of_lt (h.one k (by omega)) one_pos
        have hz := mul_nn hc zero_pos.nn (k := 0) (by unfold inf; omega) (by rw [zero_pos.mag, val_zero]; omega)
        have h0 : fmul (at0 cs k) 0 = 0 := by have := hz.2.2.2 zero_pos; omega
        rw [h0, zero_add zero_pos]
    exact ho _ (Nat.le_refl _)
  · rw [at_x x (by omega), at_x (x + 1) (by omega)]
    have hm := h.sums (x := x) (y := x + 1) (D := E + 2 * ep) (by omega) (by omega) (h.best_mon hx) cs.length (Nat.le_refl _)
    have h2 : csum cs cs.length * (E + 2 * ep) ≤ (2 * (E + 2 * ep)) * wide := by
      have h3 : csum cs cs.length ≤ 2 * wide := by have := h.sum; omega
      have h4 := Nat.mul_le_mul_right (E + 2 * ep) h3
      rwa [Nat.mul_assoc, Nat.mul_comm wide, ← Nat.mul_assoc] at h4
    have h5 : val (outK (intW (p : Int)) w cs x cs.length) ≤ val (outK (intW (p : Int)) w cs (x + 1) cs.length) + (2 * (E + 2 * ep) + 16 * ep) := by
      apply mul_cancel_wide
      rw [Nat.add_mul (2 * (E + 2 * ep))]
      generalize val (outK (intW (p : Int)) w cs x cs.length) * wide = a at *
      generalize val (outK (intW (p : Int)) w cs (x + 1) cs.length) * wide = b at *
      generalize (2 * (E + 2 * ep)) * wide = c at *
      generalize 16 * ep * wide = d at *
      omega
    omega
  · rw [at_x x (by omega), at_x (x + 1) (by omega)]
    have hm := h.sums (x := x + 1) (y := x) (D := p0 * wide + E + 2 * ep) (by omega) (by omega) (h.best_lip hx) cs.length (Nat.le_refl _)
    have hD : p0 * wide + E + 2 * ep ≤ 1024 * wide := by
      generalize p0 * wide = q at *
      omega
    have h2 : csum cs cs.length * (p0 * wide + E + 2 * ep) ≤ (p0 * wide + E + 2 * ep) * wide + ep * wide := by
      have h4 := Nat.mul_le_mul_right (p0 * wide + E + 2 * ep) h.sum
      rw [Nat.add_mul, Nat.mul_comm wide] at h4
      have h6 : 4 * kap * (p0 * wide + E + 2 * ep) ≤ 4 * kap * (1024 * wide) := Nat.mul_le_mul_left _ hD
      have h7 : 4 * kap * (1024 * wide) = 4096 * kap * wide := by
        rw [← Nat.mul_assoc, Nat.mul_assoc 4, Nat.mul_comm kap, ← Nat.mul_assoc]
      have h8 : 4096 * kap * wide ≤ ep * wide := Nat.mul_le_mul_right _ (by omega)
      omega
    have h5 : val (outK (intW (p : Int)) w cs (x + 1) cs.length) ≤ val (outK (intW (p : Int)) w cs x cs.length) + ((p0 * wide + E + 2 * ep) + ep + 16 * ep) := by
      apply mul_cancel_wide
      rw [Nat.add_mul (p0 * wide + E + 2 * ep + ep), Nat.add_mul (p0 * wide + E + 2 * ep)]
      generalize val (outK (intW (p : Int)) w cs x cs.length) * wide = a at *
      generalize val (outK (intW (p : Int)) w cs (x + 1) cs.length) * wide = b at *
      generalize (p0 * wide + E + 2 * ep) * wide = c at *
      generalize ep * wide = d at *
      generalize 16 * ep * wide = d2 at *
      omega
    omega
end
end FloatPlain
