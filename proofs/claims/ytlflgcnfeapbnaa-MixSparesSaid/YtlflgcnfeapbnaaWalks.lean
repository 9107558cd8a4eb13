/- The walks of mix and of its reference: what each function hands back, as a function of numbers of 64 bits. -/
import Derived.Test.YtlflgcnfeapbnaaRows
import Derived.WalkKit
import Derived.WalkLawsBesides
import Derived.WalkSpells
import Derived.Test.YtlflgcnfeapbnaaBits
import Derived.Test.YtlflgcnfeapbnaaPlain
namespace Go.Proofs.Ytlflgcnfeapbnaa
open Go.RowKit MixPlain

theorem hid {p : Prop} (h : p) : Hid p := h
theorem ret_u64 {a b : Int} (h : a = b) : Ending.returned (.int .u64 a) = Ending.returned (.int .u64 b) := by rw [h]

theorem M1_is : I M1 = 13787848793156543929 := by decide
theorem M2_is : I M2 = 10723151780598845931 := by decide

theorem hash_any (x : BitVec 64) (n : Int) (h : n = I x) (w : World) : Calls Try.prog 10 #[.int .u64 n] w fun e w' => e = .returned (.int .u64 (I (hash x))) ∧ w = w' := by
  subst h
  have h0 := I_nonneg x
  have h1 := I_lt x
  go_enter Try.func10, Try.ntmps10
  go_wp2
  go_ret
  exact ⟨ret_u64 (by rw [← M1_is, ← M2_is]; simp only [I_xor, I_mul, I_shr30, I_shr27, I_shr31]; rfl), rfl⟩

theorem moved_any (x : BitVec 64) (k : Nat) (n : Int) (h : n = I x) (hk : k < 64) (w : World) : Calls Try.prog 23 #[.int .u64 n, .int .u64 (k : Int)] w fun e w' => e = .returned (.int .u64 (I (mv x k))) ∧ w = w' := by
  subst h
  have h0 := I_nonneg x
  have h1 := I_lt x
  go_enter Try.func23, Try.ntmps23
  go_wp2
  go_ret
  exact ⟨ret_u64 (by simp only [I_xor, I_shr]; rfl), rfl⟩

theorem refHash_any (x : BitVec 64) (n : Int) (h : n = I x) (w : World) : Calls Try.prog 11 #[.int .u64 n] w fun e w' => e = .returned (.int .u64 (I (hash x))) ∧ w = w' := by
  subst h
  go_enter Try.func11, Try.ntmps11
  go_wp2_with fail
  refine (moved_any x 30 _ rfl (by omega) _).mono ?_
  rintro e w' ⟨rfl, rfl⟩
  go_wp2_with fail
  refine (moved_any (mv x 30 * M1) 27 _ (by rw [← M1_is, I_mul]) (by omega) _).mono ?_
  rintro e w' ⟨rfl, rfl⟩
  go_wp2_with fail
  refine (moved_any (mv (mv x 30 * M1) 27 * M2) 31 _ (by rw [← M2_is, I_mul]) (by omega) _).mono ?_
  rintro e w' ⟨rfl, rfl⟩
  go_wp2_with fail
  go_ret
  exact ⟨rfl, rfl⟩

theorem unshift31 (y : BitVec 64) (n : Int) (h : n = I y) (w : World) : Calls Try.prog 24 #[.int .u64 n, .int .i64 31] w fun e w' => e = .returned (.int .u64 (I (unmv y 31))) ∧ w = w' := by
  subst h
  have h0 := I_nonneg y
  have h1 := I_lt y
  go_enter Try.func24, Try.ntmps24
  go_wp2
  refine wp_loop_rounds 3 ?_
  rw [rounds_succ]
  go_wp2
  rw [rounds_succ]
  go_wp2
  rw [rounds_succ]
  go_wp2
  go_ret
  exact ⟨ret_u64 (by simp only [I_xor, I_shr31]; rfl), rfl⟩
theorem unshift27 (y : BitVec 64) (n : Int) (h : n = I y) (w : World) : Calls Try.prog 24 #[.int .u64 n, .int .i64 27] w fun e w' => e = .returned (.int .u64 (I (unmv y 27))) ∧ w = w' := by
  subst h
  have h0 := I_nonneg y
  have h1 := I_lt y
  go_enter Try.func24, Try.ntmps24
  go_wp2
  refine wp_loop_rounds 3 ?_
  rw [rounds_succ]
  go_wp2
  rw [rounds_succ]
  go_wp2
  rw [rounds_succ]
  go_wp2
  go_ret
  exact ⟨ret_u64 (by simp only [I_xor, I_shr27]; rfl), rfl⟩
theorem unshift30 (y : BitVec 64) (n : Int) (h : n = I y) (w : World) : Calls Try.prog 24 #[.int .u64 n, .int .i64 30] w fun e w' => e = .returned (.int .u64 (I (unmv y 30))) ∧ w = w' := by
  subst h
  have h0 := I_nonneg y
  have h1 := I_lt y
  go_enter Try.func24, Try.ntmps24
  go_wp2
  refine wp_loop_rounds 3 ?_
  rw [rounds_succ]
  go_wp2
  rw [rounds_succ]
  go_wp2
  rw [rounds_succ]
  go_wp2
  go_ret
  exact ⟨ret_u64 (by simp only [I_xor, I_shr30]; rfl), rfl⟩

/-- the rounds of 'turned' -/
def turnTo (o : BitVec 64) : Nat → BitVec 64
  | 0 => o
  | k + 1 => turnStep o (turnTo o k)

theorem two_is : I 2#64 = 2 := by decide

theorem turned_any (o : BitVec 64) (n : Int) (h : n = I o) (w : World) : Calls Try.prog 25 #[.int .u64 n] w fun e w' => e = .returned (.int .u64 (I (turned o))) ∧ w = w' := by
  subst h
  go_enter Try.func25, Try.ntmps25
  go_wp2
  go_loop [3, 5] (fun x i => ∃ k : Nat, k ≤ 5 ∧ i = .int .i64 k ∧ x = .int .u64 (I (turnTo o k))) (fun _ i => 5 - (intOf i).toNat)
  case atStart => exact ⟨0, by omega, rfl, rfl⟩
  case round =>
    obtain ⟨k, hk, rfl, rfl⟩ := hrel
    go_wp2
    · have hlt : (k : Int) < 5 := by assumption
      go_round
      case rel => exact ⟨k + 1, by omega, by go_num, by rw [← two_is, I_mul, I_sub, I_mul]; rfl⟩
      case measure => simp [intOf]; omega
    · have hge : (5 : Int) ≤ k := by assumption
      obtain rfl : k = 5 := by omega
      go_ret
      exact ⟨rfl, rfl⟩

theorem under_step (y : BitVec 64) (k n : Nat) (hb : 63 - n + k < 64) : bits .or .u64 (I (underTo y k n)) (IntKind.u64.wrap (bits .xor .u64 (bits .and .u64 (I y / (2 : Int) ^ (63 - n)) 1) (bits .and .u64 (I (underTo y k n) / (2 : Int) ^ (63 - n + k)) 1) * (2 : Int) ^ (63 - n))) = I (underTo y k (n + 1)) := by
  rw [I_shr, I_shr, I_and1, I_and1, I_xor, I_shl, I_or]
  congr 1
  show _ = underStep y k (63 - n) (underTo y k n)
  unfold underStep
  rw [if_pos hb]

theorem under_step' (y : BitVec 64) (k n : Nat) (hb : ¬ 63 - n + k < 64) : bits .or .u64 (I (underTo y k n)) (IntKind.u64.wrap (bits .and .u64 (I y / (2 : Int) ^ (63 - n)) 1 * (2 : Int) ^ (63 - n))) = I (underTo y k (n + 1)) := by
  rw [I_shr, I_and1, I_shl, I_or]
  congr 1
  show _ = underStep y k (63 - n) (underTo y k n)
  unfold underStep
  rw [if_neg hb]

theorem val_u64 {a b : Int} (h : a = b) : Value.int .u64 a = Value.int .u64 b := by rw [h]

theorem under_any (y : BitVec 64) (k : Nat) (n : Int) (h : n = I y) (h1 : 1 ≤ k) (hk : k < 64) (w : World) : Calls Try.prog 26 #[.int .u64 n, .int .u64 (k : Int)] w fun e w' => e = .returned (.int .u64 (I (underTo y k 64))) ∧ w = w' := by
  subst h
  have h0 := I_nonneg y
  go_enter Try.func26, Try.ntmps26
  go_wp2
  go_loop [5, 6] (fun x b => ∃ n : Nat, n ≤ 64 ∧ b = .int .i64 (63 - n) ∧ x = .int .u64 (I (underTo y k n))) (fun _ b => (intOf b + 1).toNat)
  case atStart => exact ⟨0, by omega, rfl, rfl⟩
  case round =>
    obtain ⟨n, hn, rfl, rfl⟩ := hrel
    have g0 := I_nonneg (underTo y k n)
    by_cases hlt : n < 64
    · by_cases hb : (63 - (n : Int)) + k < 64
      · go_wp2
        go_round
        case rel => exact ⟨n + 1, by omega, by go_num, val_u64 (under_step y k n (by omega))⟩
        case measure => simp [intOf]; omega
      · go_wp2
        go_round
        case rel => exact ⟨n + 1, by omega, by go_num, val_u64 (under_step' y k n (by omega))⟩
        case measure => simp [intOf]; omega
    · go_wp2
      go_ret
      obtain rfl : n = 64 := by omega
      exact ⟨rfl, rfl⟩

theorem over_test (y o : BitVec 64) (n : Nat) : (bits .and .u64 (IntKind.u64.wrap (I y - IntKind.u64.wrap (I (overTo y o n) * I o)) / (2 : Int) ^ n) 1 == 1) = decide (((y - overTo y o n * o) >>> n) &&& 1#64 = 1#64) := by
  rw [I_mul, I_sub, I_shr, I_and1, ← one_is, Bool.eq_iff_iff, beq_iff_eq, decide_eq_true_iff]
  exact ⟨fun h => I_inj h, fun h => by rw [h]⟩

theorem over_yes (y o : BitVec 64) (n : Nat) (h : (bits .and .u64 (IntKind.u64.wrap (I y - IntKind.u64.wrap (I (overTo y o n) * I o)) / (2 : Int) ^ n) 1 == 1) = true) : bits .or .u64 (I (overTo y o n)) (IntKind.u64.wrap ((2 : Int) ^ n)) = I (overTo y o (n + 1)) := by
  rw [over_test, decide_eq_true_iff] at h
  rw [I_pow, I_or]
  congr 1
  show _ = overStep y o n (overTo y o n)
  unfold overStep
  rw [if_pos h]

theorem over_no (y o : BitVec 64) (n : Nat) (h : (bits .and .u64 (IntKind.u64.wrap (I y - IntKind.u64.wrap (I (overTo y o n) * I o)) / (2 : Int) ^ n) 1 == 1) = false) : I (overTo y o n) = I (overTo y o (n + 1)) := by
  rw [over_test, decide_eq_false_iff_not] at h
  congr 1
  show _ = overStep y o n (overTo y o n)
  unfold overStep
  rw [if_neg h]

theorem over_any (y o : BitVec 64) (n m : Int) (h : n = I y) (h' : m = I o) (w : World) : Calls Try.prog 27 #[.int .u64 n, .int .u64 m] w fun e w' => e = .returned (.int .u64 (I (overTo y o 64))) ∧ w = w' := by
  subst h h'
  have h0 := I_nonneg y
  go_enter Try.func27, Try.ntmps27
  go_wp2
  go_loop [5, 6] (fun x b => ∃ n : Nat, n ≤ 64 ∧ b = .int .i64 n ∧ x = .int .u64 (I (overTo y o n))) (fun _ b => 64 - (intOf b).toNat)
  case atStart => exact ⟨0, by omega, rfl, rfl⟩
  case round =>
    obtain ⟨n, hn, rfl, rfl⟩ := hrel
    have g0 := I_nonneg (overTo y o n)
    by_cases hlt : n < 64
    · go_wp2
      · go_round
        case rel => exact ⟨n + 1, by omega, by go_num, val_u64 (over_yes y o n (by assumption))⟩
        case measure => simp [intOf]; omega
      · go_round
        case rel => exact ⟨n + 1, by omega, by go_num, val_u64 (over_no y o n (by assumption))⟩
        case measure => simp [intOf]; omega
    · go_wp2
      go_ret
      obtain rfl : n = 64 := by omega
      exact ⟨rfl, rfl⟩

theorem back_any (y : BitVec 64) (n : Int) (h : n = I y) (w : World) : Calls Try.prog 12 #[.int .u64 n] w fun e w' => e = .returned (.int .u64 (I (back y))) ∧ w = w' := by
  subst h
  go_enter Try.func12, Try.ntmps12
  go_wp2_with fail
  refine (unshift31 y _ rfl _).mono ?_
  rintro e w' ⟨rfl, rfl⟩
  go_wp2_with fail
  refine (turned_any M2 _ M2_is.symm _).mono ?_
  rintro e w' ⟨rfl, rfl⟩
  go_wp2_with fail
  refine (unshift27 (unmv y 31 * turned M2) _ (I_mul _ _) _).mono ?_
  rintro e w' ⟨rfl, rfl⟩
  go_wp2_with fail
  refine (turned_any M1 _ M1_is.symm _).mono ?_
  rintro e w' ⟨rfl, rfl⟩
  go_wp2_with fail
  refine (unshift30 (unmv (unmv y 31 * turned M2) 27 * turned M1) _ (I_mul _ _) _).mono ?_
  rintro e w' ⟨rfl, rfl⟩
  go_wp2_with fail
  go_ret
  exact ⟨rfl, rfl⟩

theorem refBack_any (y : BitVec 64) (n : Int) (h : n = I y) (w : World) : Calls Try.prog 13 #[.int .u64 n] w fun e w' => e = .returned (.int .u64 (I (back y))) ∧ w = w' := by
  subst h
  rw [← refBack_eq y]
  unfold refBack
  go_enter Try.func13, Try.ntmps13
  go_wp2_with fail
  refine (under_any y 31 _ rfl (by omega) (by omega) _).mono ?_
  rintro e w' ⟨rfl, rfl⟩
  go_wp2_with fail
  refine (over_any (underTo y 31 64) M2 _ _ rfl M2_is.symm _).mono ?_
  rintro e w' ⟨rfl, rfl⟩
  go_wp2_with fail
  refine (under_any (overTo (underTo y 31 64) M2 64) 27 _ rfl (by omega) (by omega) _).mono ?_
  rintro e w' ⟨rfl, rfl⟩
  go_wp2_with fail
  refine (over_any (underTo (overTo (underTo y 31 64) M2 64) 27 64) M1 _ _ rfl M1_is.symm _).mono ?_
  rintro e w' ⟨rfl, rfl⟩
  go_wp2_with fail
  refine (under_any (overTo (underTo (overTo (underTo y 31 64) M2 64) 27 64) M1 64) 30 _ rfl (by omega) (by omega) _).mono ?_
  rintro e w' ⟨rfl, rfl⟩
  go_wp2_with fail
  go_ret
  exact ⟨rfl, rfl⟩

/-! texts -/
def B0 : BitVec 64 := 0xCBF29CE484222325#64
def P0 : BitVec 64 := 0x100000001B3#64
theorem B0_is : I B0 = 14695981039346656037 := by decide
theorem P0_is : I P0 = 1099511628211 := by decide

def textStep (x : BitVec 64) (c : UInt8) : BitVec 64 := (x ^^^ BitVec.ofNat 64 c.toNat) * P0
def textOf (x : BitVec 64) (l : List UInt8) : BitVec 64 := l.foldl textStep x

theorem text_step (x : BitVec 64) (c : UInt8) : IntKind.u64.wrap (bits .xor .u64 (I x) (IntKind.u64.wrap (c.toNat : Int)) * 1099511628211) = I (textStep x c) := by
  have hc : IntKind.u64.wrap ((c.toNat : Int)) = I (BitVec.ofNat 64 c.toNat) := by
    have := c.toNat_lt
    unfold I
    rw [IntKind.wrap_u64, BitVec.toNat_ofNat, Nat.mod_eq_of_lt (by omega)]
    omega
  rw [hc, I_xor, ← P0_is, I_mul]
  rfl

theorem textOf_snoc (s : ByteArray) (x : BitVec 64) (k : Nat) (h : k < s.size) : textOf x (s.data.toList.take (k + 1)) = textStep (textOf x (s.data.toList.take k)) s[k] := by
  have : s.data.toList.take (k + 1) = s.data.toList.take k ++ [s[k]] := by
    rw [List.take_succ_eq_append_getElem (by simpa using h)]; rfl
  rw [this]
  unfold textOf
  rw [List.foldl_append]
  rfl
theorem text_any (s : ByteArray) (w : World) (hs : s.size ≤ maxLen) : Calls Try.prog 15 #[.string s] w fun e w' => e = .returned (.int .u64 (I (textOf B0 s.data.toList))) ∧ w = w' := by
  unfold maxLen at hs
  go_enter Try.func15, Try.ntmps15
  go_wp2
  go_loop [3, 7] (fun x i => ∃ k : Nat, k ≤ s.size ∧ i = .int .i64 k ∧ x = .int .u64 (I (textOf B0 (s.data.toList.take k)))) (fun _ i => s.size - (intOf i).toNat)
  case atStart => exact ⟨0, Nat.zero_le _, rfl, val_u64 B0_is.symm⟩
  case round =>
    obtain ⟨k, hk, rfl, rfl⟩ := hrel
    by_cases hlt : k < s.size
    · have HS := hid (textOf_snoc s B0 k hlt)
      go_wp2
      go_round
      case rel => exact ⟨k + 1, by omega, by go_num, val_u64 (by rw [HS.out, text_step])⟩
      case measure => simp [intOf]; omega
    · go_wp2
      go_ret
      exact ⟨ret_u64 (by rw [List.take_of_length_le (by simp; omega)]), rfl⟩
theorem more_any (x : BitVec 64) (n : Int) (h : n = I x) (s : ByteArray) (w : World) (hs : s.size ≤ maxLen) : Calls Try.prog 28 #[.int .u64 n, .string s] w fun e w' => e = .returned (.int .u64 (I (textOf x s.data.toList))) ∧ w = w' := by
  unfold maxLen at hs
  subst h
  go_enter Try.func28, Try.ntmps28
  go_wp2
  go_loop [0, 5] (fun v i => ∃ k : Nat, k ≤ s.size ∧ i = .int .i64 k ∧ v = .int .u64 (I (textOf x (s.data.toList.take k)))) (fun _ i => s.size - (intOf i).toNat)
  case atStart => exact ⟨0, Nat.zero_le _, rfl, rfl⟩
  case round =>
    obtain ⟨k, hk, rfl, rfl⟩ := hrel
    by_cases hlt : k < s.size
    · have HS := hid (textOf_snoc s x k hlt)
      go_wp2
      go_round
      case rel => exact ⟨k + 1, by omega, by go_num, val_u64 (by rw [HS.out, text_step])⟩
      case measure => simp [intOf]; omega
    · go_wp2
      go_ret
      exact ⟨ret_u64 (by rw [List.take_of_length_le (by simp; omega)]), rfl⟩
theorem refText_any (s : ByteArray) (w : World) (hs : s.size ≤ maxLen) : Calls Try.prog 16 #[.string s] w fun e w' => e = .returned (.int .u64 (I (textOf B0 s.data.toList))) ∧ w = w' := by
  go_enter Try.func16, Try.ntmps16
  go_wp2_with fail
  refine (more_any B0 _ B0_is.symm s _ hs).mono ?_
  rintro e w' ⟨rfl, rfl⟩
  go_wp2_with fail
  go_ret
  exact ⟨rfl, rfl⟩


theorem awake_any (w : World) : Calls Try.prog 14 #[] w fun e w' => e = .returned (.bool true) ∧ w = w' := by
  have e1 : I (hash 1#64) = 6238072747940578789 := by decide +kernel
  have e2 : I (back (BitVec.ofNat 64 6238072747940578789)) = 1 := by decide +kernel
  have e3 : I (textOf B0 [97]) = 12638187200555641996 := by decide +kernel
  have E1 := hid e1
  have E2 := hid e2
  have E3 := hid e3
  clear e1 e2 e3
  go_enter Try.func14, Try.ntmps14
  go_wp2_with fail
  refine (hash_any 1#64 1 (by decide) _).mono ?_
  rintro e w' ⟨rfl, rfl⟩
  rw [E1.out]
  go_wp2_with fail
  refine (back_any (BitVec.ofNat 64 6238072747940578789) _ (by decide) _).mono ?_
  rintro e w' ⟨rfl, rfl⟩
  rw [E2.out]
  go_wp2_with fail
  refine (text_any ⟨#[97]⟩ _ (by decide)).mono ?_
  rintro e w' ⟨rfl, rfl⟩
  rw [show I (textOf B0 (ByteArray.mk #[97]).data.toList) = 12638187200555641996 from E3.out]
  go_wp2_with fail
  go_ret
  exact ⟨rfl, rfl⟩

theorem mixHashes_any (x : BitVec 64) (n : Int) (h : n = I x) (w : World) : Calls Try.prog 3 #[.int .u64 n] w fun e w' => e = .returned (.bool true) ∧ w = w' := by
  have e1 := hid (show (I (hash x) == I (hash x)) = true by simp)
  subst h
  go_enter Try.func3, Try.ntmps3
  go_wp2_with fail
  refine (hash_any x _ rfl _).mono ?_
  rintro e w' ⟨rfl, rfl⟩
  go_wp2_with fail
  refine (refHash_any x _ rfl _).mono ?_
  rintro e w' ⟨rfl, rfl⟩
  go_wp2_with fail
  refine (back_any x _ rfl _).mono ?_
  rintro e w' ⟨rfl, rfl⟩
  go_wp2_with fail
  refine (refBack_any x _ rfl _).mono ?_
  rintro e w' ⟨rfl, rfl⟩
  go_wp2_with fail
  refine (awake_any _).mono ?_
  rintro e w' ⟨rfl, rfl⟩
  go_wp2_with fail
  go_ret
  exact ⟨rfl, rfl⟩

theorem mixTexts_any (s : ByteArray) (w : World) (hs : s.size ≤ maxLen) : Calls Try.prog 4 #[.string s] w fun e w' => e = .returned (.bool true) ∧ w = w' := by
  go_enter Try.func4, Try.ntmps4
  go_wp2_with fail
  refine (text_any s _ hs).mono ?_
  rintro e w' ⟨rfl, rfl⟩
  go_wp2_with fail
  refine (refText_any s _ hs).mono ?_
  rintro e w' ⟨rfl, rfl⟩
  go_wp2_with fail
  refine (awake_any _).mono ?_
  rintro e w' ⟨rfl, rfl⟩
  go_wp2_with fail
  go_ret
  exact ⟨rfl, rfl⟩

theorem I_eq (x y : BitVec 64) : (I x == I y) = decide (x = y) := by
  rw [Bool.eq_iff_iff, beq_iff_eq, decide_eq_true_iff]
  exact ⟨I_inj, fun h => by rw [h]⟩
theorem mixBack_any (x y : BitVec 64) (n m : Int) (h : n = I x) (h' : m = I y) (w : World) : Calls Try.prog 5 #[.int .u64 n, .int .u64 m] w fun e w' => e = .returned (.bool true) ∧ w = w' := by
  have e1 := hid (back_hash x)
  have e2 := hid (hash_back x)
  have e3 := hid (show ((I (hash x) == I (hash y)) == (I x == I y)) = true by
    rw [I_eq, I_eq]
    have : MixPlain.hash x = MixPlain.hash y ↔ x = y := ⟨fun h => by rw [← back_hash x, h, back_hash], fun h => by rw [h]⟩
    simp [this])
  have e4 := hid (show ((I (back x) == I (back y)) == (I x == I y)) = true by
    rw [I_eq, I_eq]
    have : back x = back y ↔ x = y := ⟨fun h => by rw [← hash_back x, h, hash_back], fun h => by rw [h]⟩
    simp [this])
  subst h h'
  go_enter Try.func5, Try.ntmps5
  go_wp2_with fail
  refine (hash_any x _ rfl _).mono ?_
  rintro e w' ⟨rfl, rfl⟩
  go_wp2_with fail
  refine (hash_any y _ rfl _).mono ?_
  rintro e w' ⟨rfl, rfl⟩
  go_wp2_with fail
  refine (back_any (hash x) _ rfl _).mono ?_
  rintro e w' ⟨rfl, rfl⟩
  rw [e1.out]
  go_wp2_with fail
  refine (back_any x _ rfl _).mono ?_
  rintro e w' ⟨rfl, rfl⟩
  go_wp2_with fail
  refine (hash_any (back x) _ rfl _).mono ?_
  rintro e w' ⟨rfl, rfl⟩
  rw [e2.out]
  have E3 := e3.out
  have E4 := e4.out
  go_wp2_with fail
  refine (back_any x _ rfl _).mono ?_
  rintro e w' ⟨rfl, rfl⟩
  go_wp2_with fail
  refine (back_any y _ rfl _).mono ?_
  rintro e w' ⟨rfl, rfl⟩
  go_wp2_with fail
  refine (awake_any _).mono ?_
  rintro e w' ⟨rfl, rfl⟩
  go_wp2_with fail
  go_ret
  exact ⟨rfl, rfl⟩

/-- an argument that fits its kind is such a number -/
theorem u64_of_wf {n : Int} (h : (Lit.int .u64 n).wf = true) : n = I (BitVec.ofNat 64 n.toNat) := by
  have hb : 0 ≤ n ∧ n < 18446744073709551616 := by
    simp [Lit.wf, IntKind.min, IntKind.max, IntKind.signed, IntKind.bits] at h
    omega
  exact (I_of n hb.1 hb.2).symm

theorem grown_of_same {w w' : World} (h : w = w') : Grown w w' := by rw [h]; exact Grown.refl _
end Go.Proofs.Ytlflgcnfeapbnaa
