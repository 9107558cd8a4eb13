/- The walks of the sums: the program's, by its table, and the reference's, bit by bit. -/
import Derived.Test.YtffkegfhnlkonaaDoorRows
import Derived.Test.YtffkegfhnlkonaaDoorMem
import Derived.Test.YtffkegfhnlkonaaDoorBits
import Derived.Deep.QuietTactic
import Derived.BigQuiet
namespace Go.Proofs.YtffkegfhnlkonaaDoor
open Go.RowKit CrcPlain

theorem hid {p : Prop} (h : p) : Hid p := h
theorem ret_u32 {a b : Int} (h : a = b) : Ending.returned (.int .u32 a) = Ending.returned (.int .u32 b) := by rw [h]
theorem val_u32 {a b : Int} (h : a = b) : Value.int .u32 a = Value.int .u32 b := by rw [h]

/-- bytes as cells -/
def Lb (l : List (BitVec 8)) : List Value := l.map fun b => .int .u8 (K b)
theorem Lb_len (l : List (BitVec 8)) : (Lb l).length = l.length := by simp [Lb]
theorem Lb_get {l : List (BitVec 8)} {k : Nat} (h : k < l.length) : (Lb l)[k]? = some (.int .u8 (K l[k])) := by simp [Lb, h]
/-- bytes as the plain law has them -/
def ws (l : List (BitVec 8)) : List (BitVec 32) := l.map wd

theorem run_take (r : BitVec 32) (l : List (BitVec 8)) (k : Nat) (h : k < l.length) : run r (ws (l.take (k + 1))) = byte (run r (ws (l.take k))) (wd l[k]) := by
  rw [List.take_succ_eq_append_getElem h]
  unfold ws
  rw [List.map_append, run_append]; rfl

theorem more_any (s : BitVec 32) (n : Int) (hn : n = J s) (v : Value) (l : List (BitVec 8)) (w : World) (hv : Sl w v (Lb l)) (hT : Tab w) :
    Calls Tryd.prog 14 #[.int .u32 n, v] w fun e w' => e = .returned (.int .u32 (J (more s (ws l)))) ∧ w = w' := by
  subst hn
  obtain ⟨a, c, rfl, hc, hcm, h1⟩ := hv
  rw [Lb_len] at hc ⊢
  unfold maxLen at hcm
  have hx := J_not s
  have HT := hid hT
  clear hT
  go_enter Tryd.func14, Tryd.ntmps14
  go_wp2
  clear hx
  go_loop [5, 12] (fun r i => ∃ k : Nat, k ≤ l.length ∧ i = .int .i64 k ∧ r = .int .u32 (J (run (~~~ s) (ws (l.take k))))) (fun _ i => l.length - (intOf i).toNat)
  case atStart => exact ⟨0, Nat.zero_le _, rfl, rfl⟩
  case round =>
    obtain ⟨k, hk, rfl, rfl⟩ := hrel
    by_cases hlt : k < l.length
    · rcases h1 with ⟨h0, _⟩ | ⟨g1, o1, rfl, hg1, hc1⟩
      · simp [Lb] at h0; subst h0; simp at hlt
      have c1 : w.cell? ⟨g1, o1 + k, none⟩ = some (.int .u8 (K l[k])) := hc1 k _ (Lb_get hlt)
      clear hc1
      have hi : (k : Int) < (l.length : Int) := by omega
      have HR := hid (run_take (~~~ s) l k hlt)
      obtain ⟨R, hR⟩ : ∃ R, run (~~~ s) (ws (l.take k)) = R := ⟨_, rfl⟩
      obtain ⟨b, hb⟩ : ∃ b, l[k] = b := ⟨_, rfl⟩
      rw [hR, hb] at HR
      rw [hb] at c1
      rw [hR]
      clear hR hb
      obtain ⟨R1, hR1⟩ : ∃ R1, R ^^^ wd b = R1 := ⟨_, rfl⟩
      have E0 : IntKind.u32.wrap (K b) = J (wd b) := by
        rw [J_wd, IntKind.wrap_u32']
        have := K_nonneg b; have := K_lt b; omega
      have E1 : bits .xor .u32 (J R) (J (wd b)) = J R1 := by rw [J_xor, hR1]
      have HR1 := hid hR1
      clear hR1
      obtain ⟨i1, T1, S1, R2, hi1, EA1, CT1, ES1, EX1, hR2⟩ := nibble_at HT.out R1
      have HR2 := hid hR2
      clear hR2
      obtain ⟨i2, T2, S2, R3, hi2, EA2, CT2, ES2, EX2, hR3⟩ := nibble_at HT.out R2
      have HR3 := hid hR3
      clear hR3
      go_wp2
      go_round
      case rel => exact ⟨k + 1, by omega, by go_num, val_u32 (by rw [HR.out, HR3.out, HR2.out, ← HR1.out, ← steps_add]; rfl)⟩
      case measure => simp [intOf]; omega
    · have hx := J_not (run (~~~ s) (ws (l.take k)))
      go_wp2
      go_ret
      exact ⟨ret_u32 (by rw [List.take_of_length_le (by omega)]; rfl), rfl⟩

theorem sum_any (v : Value) (l : List (BitVec 8)) (w : World) (hv : Sl w v (Lb l)) (hT : Tab w) :
    Calls Tryd.prog 12 #[v] w fun e w' => e = .returned (.int .u32 (J (more 0#32 (ws l)))) ∧ w = w' := by
  have z : (0 : Int) = J 0#32 := by decide
  have Z := hid z
  have HV := hid hv
  have HT := hid hT
  clear z hv hT
  go_enter Tryd.func12, Tryd.ntmps12
  go_wp2_with fail
  refine (more_any 0#32 _ Z.out v l _ HV.out HT.out).mono ?_
  rintro e w' ⟨rfl, rfl⟩
  go_wp2_with fail
  go_ret
  exact ⟨rfl, rfl⟩

theorem Jif (c : Prop) [Decidable c] (a b : BitVec 32) : J (if c then a else b) = if c then J a else J b := by split <;> rfl

/-! the reference: bit by bit -/
theorem step_any (r : BitVec 32) (n : Int) (hn : n = J r) (w : World) : Calls Tryd.prog 36 #[.int .u32 n] w fun e w' => e = .returned (.int .u32 (J (CrcPlain.step r))) ∧ w = w' := by
  subst hn
  have h0 := J_nonneg r
  have h1 : (J r).tdiv 2 % (4294967296 : Int) = J (r >>> 1) := by
    have e : J r / (2 : Int) = J (r >>> 1) := J_shr r 1
    have := J_lt (r >>> 1)
    have := J_nonneg (r >>> 1)
    rw [Int.tdiv_eq_ediv_of_nonneg h0, e]
    omega
  have h2 : J r % (2 : Int) = if r.getLsbD 0 = true then 1 else 0 := by
    unfold J
    simp only [BitVec.getLsbD, Nat.testBit_zero, decide_eq_true_eq]
    split <;> omega
  have h3 : bits .xor .u32 (J (r >>> 1)) 3988292384 = J ((r >>> 1) ^^^ P) := by
    rw [show (3988292384 : Int) = J P by decide, J_xor]
  by_cases h : r.getLsbD 0 = true
  · rw [if_pos h] at h2
    have hs : CrcPlain.step r = (r >>> 1) ^^^ P := by unfold CrcPlain.step; rw [if_pos h]
    have HS := hid hs
    clear hs h
    go_enter Tryd.func36, Tryd.ntmps36
    go_wp2
    go_ret
    exact ⟨ret_u32 (by rw [HS.out]), rfl⟩
  · rw [if_neg h] at h2
    have hs : CrcPlain.step r = (r >>> 1) := by unfold CrcPlain.step; rw [if_neg h, BitVec.xor_zero]
    have HS := hid hs
    clear hs h
    go_enter Tryd.func36, Tryd.ntmps36
    go_wp2
    go_ret
    exact ⟨ret_u32 (by rw [HS.out]; exact h1), rfl⟩

theorem byte_any (r : BitVec 32) (b : BitVec 8) (n m : Int) (hn : n = J r) (hm : m = K b) (w : World) : Calls Tryd.prog 28 #[.int .u32 n, .int .u8 m] w fun e w' => e = .returned (.int .u32 (J (byte r (wd b)))) ∧ w = w' := by
  subst hn hm
  have E0 : IntKind.u32.wrap (K b) = J (wd b) := by
    rw [J_wd, IntKind.wrap_u32']
    have := K_nonneg b; have := K_lt b; omega
  have E1 : bits .xor .u32 (J r) (J (wd b)) = J (r ^^^ wd b) := J_xor _ _
  go_enter Tryd.func28, Tryd.ntmps28
  go_wp2
  clear E0 E1
  go_loop [0, 5] (fun x i => ∃ k : Nat, k ≤ 8 ∧ i = .int .i64 k ∧ x = .int .u32 (J (steps k (r ^^^ wd b)))) (fun _ i => 8 - (intOf i).toNat)
  case atStart => exact ⟨0, by omega, rfl, rfl⟩
  case round =>
    obtain ⟨k, hk, rfl, rfl⟩ := hrel
    by_cases hlt : k < 8
    · go_wp2_with fail
      refine (step_any (steps k (r ^^^ wd b)) _ rfl _).mono ?_
      rintro e w' ⟨rfl, hw⟩
      obtain rfl := hw
      go_wp2_with fail
      go_round
      case rel => exact ⟨k + 1, by omega, by go_num, val_u32 (by rw [steps_succ'])⟩
      case measure => simp [intOf]; omega
    · go_wp2
      go_ret
      obtain rfl : k = 8 := by omega
      exact ⟨rfl, rfl⟩

theorem refMore_any (s : BitVec 32) (n : Int) (hn : n = J s) (v : Value) (l : List (BitVec 8)) (w : World) (hv : Sl w v (Lb l)) :
    Calls Tryd.prog 15 #[.int .u32 n, v] w fun e w' => e = .returned (.int .u32 (J (more s (ws l)))) ∧ w = w' := by
  subst hn
  obtain ⟨a, c, rfl, hc, hcm, h1⟩ := hv
  rw [Lb_len] at hc ⊢
  unfold maxLen at hcm
  have E0 : bits .xor .u32 (J s) 4294967295 = J (~~~ s) := by
    rw [show (4294967295 : Int) = J (BitVec.allOnes 32) by decide, J_xor, BitVec.xor_allOnes]
  go_enter Tryd.func15, Tryd.ntmps15
  go_wp2
  clear E0
  go_loop [5, 6] (fun r i => ∃ k : Nat, k ≤ l.length ∧ i = .int .i64 k ∧ r = .int .u32 (J (run (~~~ s) (ws (l.take k))))) (fun _ i => l.length - (intOf i).toNat)
  case atStart => exact ⟨0, Nat.zero_le _, rfl, rfl⟩
  case round =>
    obtain ⟨k, hk, rfl, rfl⟩ := hrel
    by_cases hlt : k < l.length
    · rcases h1 with ⟨h0, _⟩ | ⟨g1, o1, rfl, hg1, hc1⟩
      · simp [Lb] at h0; subst h0; simp at hlt
      have c1 : w.cell? ⟨g1, o1 + k, none⟩ = some (.int .u8 (K l[k])) := hc1 k _ (Lb_get hlt)
      clear hc1
      have hi : (k : Int) < (l.length : Int) := by omega
      have HR := hid (run_take (~~~ s) l k hlt)
      go_wp2_with fail
      refine (byte_any (run (~~~ s) (ws (l.take k))) l[k] _ _ rfl rfl _).mono ?_
      rintro e w' ⟨rfl, hw⟩
      obtain rfl := hw
      go_wp2_with fail
      go_round
      case rel => exact ⟨k + 1, by omega, by go_num, val_u32 (by rw [HR.out])⟩
      case measure => simp [intOf]; omega
    · have hx : bits .xor .u32 (J (run (~~~ s) (ws (l.take k)))) 4294967295 = J (~~~ (run (~~~ s) (ws (l.take k)))) := by
        rw [show (4294967295 : Int) = J (BitVec.allOnes 32) by decide, J_xor, BitVec.xor_allOnes]
      go_wp2
      go_ret
      exact ⟨ret_u32 (by rw [List.take_of_length_le (by omega)]; rfl), rfl⟩

theorem refSum_any (v : Value) (l : List (BitVec 8)) (w : World) (hv : Sl w v (Lb l)) :
    Calls Tryd.prog 13 #[v] w fun e w' => e = .returned (.int .u32 (J (more 0#32 (ws l)))) ∧ w = w' := by
  have z : (0 : Int) = J 0#32 := by decide
  have Z := hid z
  have HV := hid hv
  clear z hv
  go_enter Tryd.func13, Tryd.ntmps13
  go_wp2_with fail
  refine (refMore_any 0#32 _ Z.out v l _ HV.out).mono ?_
  rintro e w' ⟨rfl, rfl⟩
  go_wp2_with fail
  go_ret
  exact ⟨rfl, rfl⟩

/-! the product; joining -/
theorem J_neg (x : BitVec 32) : IntKind.u32.wrap (-(J x)) = J (-x) := by
  unfold J; rw [IntKind.wrap_u32', BitVec.toNat_neg]
  have := x.isLt
  omega

theorem one32 : J 1#32 = 1 := by decide
theorem poly_is : J P = 3988292384 := by decide

theorem step_word (b : BitVec 32) : (b >>> 1) ^^^ (P &&& -(b &&& 1#32)) = CrcPlain.step b := by
  unfold CrcPlain.step
  congr 1
  by_cases h : b.getLsbD 0 = true
  · rw [if_pos h]
    have : b &&& 1#32 = 1#32 := by
      apply BitVec.eq_of_getLsbD_eq
      intro i hi
      rw [BitVec.getLsbD_and, BitVec.getLsbD_one]
      by_cases e : i = 0
      · subst e; rw [h]; simp
      · simp [e]
    rw [this]
    decide
  · rw [if_neg h]
    have h' : b.getLsbD 0 = false := by simpa using h
    have : b &&& 1#32 = 0#32 := by
      apply BitVec.eq_of_getLsbD_eq
      intro i hi
      rw [BitVec.getLsbD_and, BitVec.getLsbD_one]
      by_cases e : i = 0
      · subst e; rw [h']; simp
      · simp [e]
    rw [this]
    decide

/-- a step, as 'times' takes it: what the walk wants to know -/
theorem step_at (b : BitVec 32) : ∃ x1 x2 x3 x4 x5 : BitVec 32, J b / (2 : Int) = J x1 ∧ bits .and .u32 (J b) 1 = J x2 ∧ IntKind.u32.wrap (-(J x2)) = J x3 ∧ bits .and .u32 3988292384 (J x3) = J x4 ∧ bits .xor .u32 (J x1) (J x4) = J x5 ∧ x5 = CrcPlain.step b :=
  ⟨b >>> 1, b &&& 1#32, -(b &&& 1#32), P &&& -(b &&& 1#32), _, J_shr b 1, by rw [← one32, J_and], J_neg _, by rw [← poly_is, J_and], J_xor _ _, step_word b⟩

theorem one_shr (j : Nat) (hj : j < 32) : one >>> j = 1#32 <<< (31 - j) := by
  have : ∀ k : Fin 32, one >>> k.val = 1#32 <<< (31 - k.val) := by decide
  exact this ⟨j, hj⟩

theorem test_at (a : BitVec 32) (j : Nat) (hj : j < 32) : (bits .and .u32 (J a) (J (one >>> j)) != 0) = a.getLsbD (31 - j) := by
  rw [J_and, one_shr j hj]
  have e : a &&& (1#32 <<< (31 - j)) = if a.getLsbD (31 - j) = true then 1#32 <<< (31 - j) else 0#32 := by
    apply BitVec.eq_of_getLsbD_eq
    intro i hi
    rw [BitVec.getLsbD_and, BitVec.getLsbD_shiftLeft, BitVec.getLsbD_one]
    by_cases c : i = 31 - j
    · subst c
      cases h : a.getLsbD (31 - j)
      · simp
      · simp [hi]
    · have hz : (decide (i < 32) && !decide (i < 31 - j) && (decide (0 < 32) && decide (i - (31 - j) = 0))) = false := by
        by_cases c2 : i < 31 - j
        · simp [c2]
        · have : ¬ i - (31 - j) = 0 := by omega
          simp [this]
      rw [hz, Bool.and_false]
      split
      · rw [BitVec.getLsbD_shiftLeft, BitVec.getLsbD_one, hz]
      · simp
  rw [e]
  cases h : a.getLsbD (31 - j)
  · rw [if_neg (by simp)]; decide
  · rw [if_pos rfl]
    have : ∀ k : Fin 32, (J (1#32 <<< k.val) != 0) = true := by decide
    exact this ⟨31 - j, by omega⟩

theorem half_at (j : Nat) : J (one >>> j) / (2 : Int) = J (one >>> (j + 1)) := by
  rw [show one >>> (j + 1) = (one >>> j) >>> 1 from BitVec.shiftRight_add ..]
  exact J_shr _ 1

theorem m_test (j : Nat) (hj : j ≤ 32) : (J (one >>> j) != 0) = decide (j < 32) := by
  have : ∀ k : Fin 33, (J (one >>> k.val) != 0) = decide (k.val < 32) := by decide
  exact this ⟨j, by omega⟩

theorem times_any (a b : BitVec 32) (n m : Int) (hn : n = J a) (hm : m = J b) (w : World) : Calls Tryd.prog 29 #[.int .u32 n, .int .u32 m] w fun e w' => e = .returned (.int .u32 (J (times a b))) ∧ w = w' := by
  subst hn hm
  have ho : (2147483648 : Int) = J (one >>> 0) := by decide
  have HO := hid ho
  clear ho
  go_enter Tryd.func29, Tryd.ntmps29
  go_wp2
  go_loop [1, 5, 6] (fun b' p m' => ∃ j : Nat, j ≤ 32 ∧ m' = .int .u32 (J (one >>> j)) ∧ b' = .int .u32 (J (steps j b)) ∧ p = .int .u32 (J (timesTo a b j))) (fun _ _ m' => (intOf m').toNat)
  case atStart => exact ⟨0, by omega, val_u32 HO.out, rfl, val_u32 (show (0 : Int) = J 0#32 by decide)⟩
  case round =>
    obtain ⟨j, hj, rfl, rfl, rfl⟩ := hrel
    have hmt := m_test j hj
    by_cases hlt : j < 32
    · rw [decide_eq_true hlt] at hmt
      have ht := test_at a j hlt
      have hh := half_at j
      have g0 := J_nonneg (one >>> j)
      have g1 := J_nonneg (steps j b)
      have hdec : (J (one >>> (j + 1))).toNat < (J (one >>> j)).toNat := by
        have : ∀ k : Fin 32, (J (one >>> (k.val + 1))).toNat < (J (one >>> k.val)).toNat := by decide
        exact this ⟨j, hlt⟩
      have HD := hid hdec
      clear hdec
      obtain ⟨x1, x2, x3, x4, x5, e1, e2, e3, e4, e5, h5⟩ := step_at (steps j b)
      have H5 := hid h5
      clear h5
      by_cases hb : a.getLsbD (31 - j) = true
      · rw [hb] at ht
        have hx : bits .xor .u32 (J (timesTo a b j)) (J (steps j b)) = J (timesTo a b (j + 1)) := by
          rw [J_xor]; congr 1; show _ = timesTo a b j ^^^ (if a.getLsbD (31 - j) = true then steps j b else 0#32); rw [if_pos hb]
        clear hb
        go_wp2
        go_round
        case rel => exact ⟨j + 1, by omega, rfl, val_u32 (by rw [H5.out, ← steps_succ']), rfl⟩
        case measure => have := HD.out; have := J_nonneg (one >>> (j + 1)); simp [intOf]; omega
      · have hb' : a.getLsbD (31 - j) = false := by simpa using hb
        rw [hb'] at ht
        have hx : timesTo a b (j + 1) = timesTo a b j := by
          show timesTo a b j ^^^ (if a.getLsbD (31 - j) = true then steps j b else 0#32) = _; rw [if_neg hb, BitVec.xor_zero]
        have HX := hid hx
        clear hx hb hb'
        go_wp2
        go_round
        case rel => exact ⟨j + 1, by omega, rfl, val_u32 (by rw [H5.out, ← steps_succ']), val_u32 (by rw [HX.out])⟩
        case measure => have := HD.out; have := J_nonneg (one >>> (j + 1)); simp [intOf]; omega
    · rw [decide_eq_false hlt] at hmt
      obtain rfl : j = 32 := by omega
      go_wp2
      go_ret
      exact ⟨rfl, rfl⟩

theorem x8_is : (8388608 : Int) = J (steps 8 one) := by decide

theorem and1_i64 (Q : Nat) (h : (Q : Int) ≤ 9223372036854775807) : bits .and .i64 (Q : Int) 1 = ((Q % 2 : Nat) : Int) := by
  have h1 : (BitVec.ofInt 64 (Q : Int)).toNat = Q := by
    rw [BitVec.ofInt_natCast, BitVec.toNat_ofNat]; exact Nat.mod_eq_of_lt (by omega)
  have h2 : (BitVec.ofInt 64 (1 : Int)).toNat = 1 := by decide
  show IntKind.i64.wrap ((BitVec.ofInt 64 (Q : Int) &&& BitVec.ofInt 64 1).toNat : Int) = _
  rw [BitVec.toNat_and, h1, h2, Nat.and_one_is_mod, IntKind.wrap_i64]
  omega

/-- what stands behind the k-th round of 'Join' -/
theorem join_any (a b : BitVec 32) (n m : Int) (z : Int) (hn : n = J a) (hm : m = J b) (hz : z ≤ 9223372036854775807) (w : World) : Calls Tryd.prog 18 #[.int .u32 n, .int .u32 m, .int .i64 z] w fun e w' => e = .returned (.int .u32 (J (steps (8 * z.toNat) a ^^^ b))) ∧ w = w' := by
  subst hn hm
  go_enter Tryd.func18, Tryd.ntmps18
  go_wp2
  go_loop [0, 2, 7] (fun a' z' x => ∃ (A : BitVec 32) (q : Int) (k : Nat), q ≤ 9223372036854775807 ∧ a' = .int .u32 (J A) ∧ z' = .int .i64 q ∧ x = .int .u32 (J (steps k one)) ∧ steps (k * q.toNat) A = steps (8 * z.toNat) a) (fun _ z' _ => (intOf z').toNat)
  case atStart => exact ⟨a, z, 8, hz, rfl, rfl, val_u32 x8_is, rfl⟩
  case round =>
    obtain ⟨A, q, k, hq, rfl, rfl, rfl, hinv⟩ := hrel
    have HI := hid hinv
    clear hinv
    by_cases hpos : 0 < q
    · obtain ⟨Q, rfl⟩ := Int.eq_ofNat_of_zero_le (show 0 ≤ q by omega)
      have hb : bits .and .i64 (Q : Int) 1 = ((Q % 2 : Nat) : Int) := and1_i64 Q (by omega)
      by_cases ho : Q % 2 = 1
      · have hb1 : (bits .and .i64 (Q : Int) 1 != 0) = true := by rw [hb, ho]; decide
        clear hb
        have HO := hid ho
        clear ho
        go_wp2_with fail
        refine (times_any A (steps k one) _ _ rfl rfl _).mono ?_
        rintro e w1 ⟨rfl, hw⟩
        obtain rfl := hw
        go_wp2_with fail
        refine (times_any (steps k one) (steps k one) _ _ rfl rfl _).mono ?_
        rintro e w1 ⟨rfl, hw⟩
        obtain rfl := hw
        go_wp2_with fail
        go_round
        case rel => exact ⟨times A (steps k one), (Q : Int) / 2, k + k, by omega, rfl, rfl, val_u32 (by rw [times_steps, steps_add]), by
          rw [← HI.out, times_steps, ← steps_add]
          have := HO.out
          congr 1
          rw [show ((Q : Int) / 2).toNat = Q / 2 by omega, Int.toNat_natCast]
          have h2 : Q = 2 * (Q / 2) + 1 := by omega
          generalize Q / 2 = c at h2
          subst h2
          rw [Nat.mul_add, Nat.mul_one, Nat.add_mul, Nat.mul_left_comm, Nat.two_mul]
          omega⟩
        case measure => simp [intOf]; omega
      · have hb1 : (bits .and .i64 (Q : Int) 1 != 0) = false := by rw [hb, show Q % 2 = 0 by omega]; decide
        clear hb
        have HO := hid ho
        clear ho
        go_wp2_with fail
        refine (times_any (steps k one) (steps k one) _ _ rfl rfl _).mono ?_
        rintro e w1 ⟨rfl, hw⟩
        obtain rfl := hw
        go_wp2_with fail
        go_round
        case rel => exact ⟨A, (Q : Int) / 2, k + k, by omega, rfl, rfl, val_u32 (by rw [times_steps, steps_add]), by
          rw [← HI.out]
          have := HO.out
          congr 1
          rw [show ((Q : Int) / 2).toNat = Q / 2 by omega, Int.toNat_natCast]
          have h2 : Q = 2 * (Q / 2) := by omega
          generalize Q / 2 = c at h2
          subst h2
          rw [Nat.add_mul, Nat.mul_left_comm, Nat.two_mul]⟩
        case measure => simp [intOf]; omega
    · have hx := J_xor A b
      go_wp2_with fail
      go_ret
      refine ⟨ret_u32 ?_, rfl⟩
      have := HI.out
      rw [show q.toNat = 0 by omega] at this
      rw [← this]
      rfl
end Go.Proofs.YtffkegfhnlkonaaDoor
