/- Rows of words: equality of rows, the program's Words, by a closure; each by its contract. -/
import Derived.Test.YtlflgcnfeapbnaaWalks
import Derived.Test.YtlflgcnfeapbnaaMem
import Derived.Deep.QuietTactic
import Derived.BigQuiet
import Derived.Deep.LoopGhost
namespace Go.Proofs.Ytlflgcnfeapbnaa
open Go.RowKit MixPlain

def L (l : List (BitVec 64)) : List Value := l.map fun x => .int .u64 (I x)

theorem L_get {xs : List (BitVec 64)} {k : Nat} (h : k < xs.length) : (L xs)[k]? = some (.int .u64 (I xs[k])) := by
  simp [L, h]
theorem L_len (xs : List (BitVec 64)) : (L xs).length = xs.length := by simp [L]

theorem same_any (xs ys : List (BitVec 64)) (u v : Value) (w : World) (hu : Sl w u (L xs)) (hv : Sl w v (L ys)) :
    Calls Try.prog 19 #[u, v] w fun e w' => e = .returned (.bool (decide (xs = ys))) ∧ ∃ m, w' = w.drewN m := by
  obtain ⟨a, c, rfl, hc, hcm, h1⟩ := hu
  obtain ⟨b, d, rfl, hd, hdm, h2⟩ := hv
  rw [L_len] at hc hd ⊢
  rw [L_len]
  unfold maxLen at hcm hdm
  by_cases hne : xs.length = ys.length
  · have hEq : ((xs.length : Int) != (ys.length : Int)) = false := by rw [hne]; simp
    have hN := hid hne
    rw [← hne] at hEq hd
    have e : Value.slice b ys.length d = Value.slice b xs.length d := by rw [hne]
    rw [e]
    clear hne e
    go_enter Try.func19, Try.ntmps19
    go_wp2
    go_loopw [5] (fun i wr => ∃ k m : Nat, k ≤ xs.length ∧ i = .int .i64 k ∧ wr = w.drewN m ∧ xs.take k = ys.take k) (fun i _ => xs.length - (intOf i).toNat)
    case atStart => exact ⟨0, 0, Nat.zero_le _, rfl, rfl, rfl⟩
    case round =>
      obtain ⟨k, m, hk, rfl, rfl, hEqk⟩ := hrel
      have HE := hid hEqk
      clear hEqk
      by_cases hlt : k < xs.length
      · have hlt2 : k < ys.length := by rw [← hN.out]; exact hlt
        rcases h1 with ⟨h0, _⟩ | ⟨g1, o1, rfl, hg1, hc1⟩
        · simp [L] at h0; subst h0; simp at hlt
        rcases h2 with ⟨h0, _⟩ | ⟨g2, o2, rfl, hg2, hc2⟩
        · simp [L] at h0; subst h0; simp at hlt2
        have c1 : w.cell? ⟨g1, o1 + k, none⟩ = some (.int .u64 (I xs[k])) := hc1 k _ (L_get hlt)
        have c2 : w.cell? ⟨g2, o2 + k, none⟩ = some (.int .u64 (I ys[k])) := hc2 k _ (L_get hlt2)
        clear hc1 hc2
        have hi : (k : Int) < (xs.length : Int) := by omega
        go_wp2
        go_quiet (fail)
        go_wp2
        · have hx : (I xs[k] != I ys[k]) = true := by assumption
          go_ret
          refine ⟨?_, m + nq, World.drewN_drewN _ _ _⟩
          have : ¬ xs = ys := fun h => by subst h; simp at hx
          rw [decide_eq_false this]; rfl
        · have hx : (I xs[k] != I ys[k]) = false := by assumption
          have hx' : xs[k] = ys[k] := by
            rw [bne_eq_false_iff_eq] at hx; exact I_inj hx
          go_roundw
          case rel => exact ⟨k + 1, m + nq, by omega, by go_num, rfl, by rw [List.take_succ_eq_append_getElem hlt, List.take_succ_eq_append_getElem hlt2, HE.out, hx']⟩
          case measure => simp [intOf]; omega
      · go_wp2
        go_ret
        refine ⟨?_, m, rfl⟩
        have h3 := HE.out
        rw [List.take_of_length_le (by omega), List.take_of_length_le (by have := hN.out; omega)] at h3
        rw [decide_eq_true h3]; rfl
  · have hEq : ((xs.length : Int) != (ys.length : Int)) = true := by simp; omega
    have hd' : decide (xs = ys) = false := by simp; intro h; exact hne (by rw [h])
    have HD := hid hd'
    clear hd'
    go_enter Try.func19, Try.ntmps19
    go_wp2
    go_ret
    exact ⟨by rw [HD.out]; rfl, 0, rfl⟩

/-- the words of a seed -/
def word (seed : BitVec 64) (i : Nat) : BitVec 64 := hash (seed + BitVec.ofNat 64 (i + 1) * G)
def words (seed : BitVec 64) (n : Nat) : List (BitVec 64) := (List.range n).map (word seed)

theorem G_is : I G = 11400714819323198485 := by decide
theorem closure_any (s : BitVec 64) (b : Nat) (w : World) (hc : w.cell? ⟨b, 0, none⟩ = some (.int .u64 (I s))) (hf : w.frozen? ⟨b, 0, none⟩ = false) :
    Calls Try.prog 32 #[.pointer (some ⟨b, 0, none⟩)] w fun e w' => e = .returned (.int .u64 (I (hash (s + G)))) ∧ w' = w.setCell ⟨b, 0, none⟩ (.int .u64 (I (s + G))) := by
  have hs : IntKind.u64.wrap (I s + 11400714819323198485) = I (s + G) := by rw [← G_is, I_add]
  have HS := hid hs
  clear hs
  go_enter Try.func32, Try.ntmps32
  go_wp2_with fail
  rw [HS.out]
  refine (hash_any (s + G) _ rfl _).mono ?_
  rintro e w' ⟨rfl, rfl⟩
  go_wp2_with fail
  go_ret
  exact ⟨rfl, rfl⟩
theorem mixWords_bad (seed : BitVec 64) (n : Int) (h : n < 0 ∨ 65536 < n) (w : World) : Calls Try.prog 17 #[.int .u64 (I seed), .int .i64 n] w fun e w' => e = .returned (.tuple #[.slice none 0 0, .int .i64 2]) ∧ w = w' := by
  rcases h with h | h
  · go_enter Try.func17, Try.ntmps17
    go_wp2
    go_ret2
    exact ⟨rfl, rfl⟩
  · have h0 : ¬ n < 0 := by omega
    go_enter Try.func17, Try.ntmps17
    go_wp2
    go_ret2
    exact ⟨rfl, rfl⟩
theorem stepper_any (seed : BitVec 64) (w : World) : Calls Try.prog 29 #[.int .u64 (I seed)] w fun e w' => e = .returned (.func (.func 32) #[] #[.pointer (some ⟨w.heap.size, 0, none⟩)]) ∧ w' = w.alloc (.cells #[.int .u64 (I seed)] 22) := by
  have hmf : ∀ (fn : Fn) (first cap : Array Value) (w : World), (Instr.makeFunc fn first cap).run Try.prog w = .ok (.func fn first cap) w := fun _ _ _ _ => rfl
  go_enter Try.func29, Try.ntmps29
  go_wp2
  go_ret
  exact ⟨rfl, rfl⟩

theorem info22 : (Try.prog.info? 22).map (fun i => (i.zero, i.size, i.bytes)) = some (some (.int .u64 0), 1, 8) := by kernel_rfl

theorem seed_next (seed : BitVec 64) (k : Nat) : seed + BitVec.ofNat 64 k * G + G = seed + BitVec.ofNat 64 (k + 1) * G := by
  have : BitVec.ofNat 64 (k + 1) = BitVec.ofNat 64 k + 1#64 := by
    apply BitVec.eq_of_toNat_eq; simp
  rw [this, BitVec.add_mul, BitVec.one_mul, BitVec.add_assoc]

theorem words_len (seed : BitVec 64) (n : Nat) : (words seed n).length = n := by simp [words]
theorem words_succ (seed : BitVec 64) (k : Nat) : words seed (k + 1) = words seed k ++ [word seed k] := by
  simp [words, List.range_succ]

theorem row_next (seed : BitVec 64) (n k : Nat) (h : k < n) :
    (L (words seed k) ++ List.replicate (n - k) (Value.int .u64 0)).set k (.int .u64 (I (word seed k))) = L (words seed (k + 1)) ++ List.replicate (n - (k + 1)) (Value.int .u64 0) := by
  have e : n - k = (n - (k + 1)) + 1 := by omega
  rw [e, List.replicate_succ, words_succ]
  have hl : (L (words seed k)).length = k := by rw [L_len, words_len]
  rw [List.set_append_right _ _ (by omega), hl, Nat.sub_self]
  simp [L]

/-- what the loop of 'Words' keeps -/
structure WR (seed : BitVec 64) (n : Nat) (w : World) (k : Nat) (wr : World) : Prop where
  row : wr.ownsRow (w.heap.size + 1) 22 1 (.slice (some ⟨w.heap.size + 1, 0, none⟩) n n) n (L (words seed k) ++ List.replicate (n - k) (Value.int .u64 0))
  box : wr.cell? ⟨w.heap.size, 0, none⟩ = some (.int .u64 (I (seed + BitVec.ofNat 64 k * G)))
  free : wr.frozen? ⟨w.heap.size, 0, none⟩ = false
  below : Below w.heap.size w wr

theorem WR.step {seed : BitVec 64} {n : Nat} {w : World} {k : Nat} {wr : World} (h : WR seed n w k wr) (hk : k < n) :
    WR seed n w (k + 1) ((wr.setCell ⟨w.heap.size, 0, none⟩ (.int .u64 (I (seed + BitVec.ofNat 64 k * G + G)))).setCell ⟨w.heap.size + 1, k, none⟩ (.int .u64 (I (hash (seed + BitVec.ofNat 64 k * G + G))))) := by
  have h1 := ownsRow_setCell_below h.row (a := ⟨w.heap.size, 0, none⟩) (by show w.heap.size < w.heap.size + 1; omega) (.int .u64 (I (seed + BitVec.ofNat 64 k * G + G)))
  have h2 := h1.stored k (.int .u64 (I (hash (seed + BitVec.ofNat 64 k * G + G))))
  refine ⟨?_, ?_, ?_, ?_⟩
  · have := h2.1
    rw [seed_next] at this ⊢
    have hw : MixPlain.hash (seed + BitVec.ofNat 64 (k + 1) * G) = word seed k := rfl
    rw [hw] at this ⊢
    rw [row_next seed n k hk] at this
    exact this
  · rw [World.cell?_setCell_other _ _ _ _ (by simp), World.cell?_setCell_same _ _ _ h.box, seed_next]
  · rw [World.frozen?_setCell, World.frozen?_setCell]; exact h.free
  · exact (h.below.setCell (Nat.le_refl _) _).setCell (by show w.heap.size ≤ w.heap.size + 1; omega) _

theorem mixWords_row (seed : BitVec 64) (n : Nat) (h : n ≤ 65536) (w : World) : Calls Try.prog 17 #[.int .u64 (I seed), .int .i64 n] w fun e w' => ∃ g, e = .returned (.tuple #[.slice (some ⟨g, 0, none⟩) n n, .int .i64 0]) ∧ w'.ownsRow w.heap.size 22 1 (.slice (some ⟨g, 0, none⟩) n n) n (L (words seed n)) ∧ Below w.heap.size w w' := by
  have h1 : ¬ (65536 : Int) < n := by omega
  have H := hid h
  clear h
  go_enter Try.func17, Try.ntmps17
  go_wp2_with fail
  refine (stepper_any seed w).mono ?_
  rintro e w1 ⟨rfl, rfl⟩
  clear h1
  have hbig : n ≤ 9223372036854775807 := by have := H.out; omega
  obtain ⟨i0, hi, hz0, hz1, hz2⟩ := info_parts info22
  go_wp2_with (at_make; refine wpList_make_full _ rfl _ _ 29 rfl (w.heap.size + 1) 22 i0 (.int .u64 0) 1 Try.underlying29 hi hz0 hz1 .i64 .i64 n n n rfl rfl rfl rfl (by rw [hz2]; have := H.out; omega) (by have := H.out; unfold maxLen; omega) (by simp) ?_; intro w2 hown hgrow)
  go_loopw [21] (fun i wr => ∃ k : Nat, k ≤ n ∧ i = .int .i64 k ∧ WR seed n w k wr) (fun i _ => n - (intOf i).toNat)
  case atStart =>
    refine ⟨0, Nat.zero_le _, rfl, ⟨?_, ?_, ?_, ?_⟩⟩
    · have h3 := hown
      have e : madeCells (Value.int IntKind.u64 0).cells (n * 1) = madeCells #[Value.int IntKind.u64 0] n := by rw [Nat.mul_one]; rfl
      rw [e, toList_madeCells_one] at h3
      simpa [words, L] using h3
    · have h3 := hgrow.cell (a := ⟨w.heap.size, 0, none⟩) (v := .int .u64 (I seed)) (by rw [World.cell?_alloc_at _ _ _ _ rfl]; rfl) (by simp)
      rw [h3]
      simp
    · rw [World.frozen?_of_block (w := w.alloc (.cells #[.int .u64 (I seed)] 22)) (hgrow.block _ (by simp) (by simp))]
      exact World.frozen?_alloc_at _ _ _ _ rfl
    · exact ((Below.refl _ _).alloc (Nat.le_refl _) _).grown hgrow (by simp) (by simp)
  case round =>
    obtain ⟨k, hk, rfl, hR⟩ := hrel
    have HR := hid hR
    by_cases hlt : k < n
    · have hbox := hR.box
      have hfree := hR.free
      have hcell : (wr.setCell ⟨w.heap.size, 0, none⟩ (.int .u64 (I (seed + BitVec.ofNat 64 k * G + G)))).cell? ⟨w.heap.size + 1, k, none⟩ = some (.int .u64 0) := by
        rw [World.cell?_setCell_other _ _ _ _ (by simp), hR.row.cellAt k (by omega)]
        have hl : (L (words seed k)).length = k := by rw [L_len, words_len]
        rw [List.getElem?_append_right (by omega), hl, Nat.sub_self]
        have : 0 < n - k := by omega
        simp [this]
      have hfr : (wr.setCell ⟨w.heap.size, 0, none⟩ (.int .u64 (I (seed + BitVec.ofNat 64 k * G + G)))).frozen? ⟨w.heap.size + 1, k, none⟩ = false := by
        rw [World.frozen?_setCell]; exact hR.row.frozenAt k
      have hi' : (k : Int) < (n : Int) := by omega
      clear hR
      go_wp2_with fail
      refine (closure_any (seed + BitVec.ofNat 64 k * G) w.heap.size wr hbox hfree).mono ?_
      rintro e w3 ⟨rfl, rfl⟩
      go_wp2_with fail
      go_roundw
      case rel => exact ⟨k + 1, by omega, by go_num, HR.out.step hlt⟩
      case measure => simp [intOf]; omega
    · go_wp2
      go_ret2
      obtain rfl : k = n := by omega
      refine ⟨_, rfl, ?_, HR.out.below⟩
      have := HR.out.row
      rw [Nat.sub_self] at this
      simp only [List.replicate_zero, List.append_nil] at this
      exact own_mono this (by omega)
theorem mixWords_any (seed : BitVec 64) (n : Nat) (h : n ≤ 65536) (w : World) : Calls Try.prog 17 #[.int .u64 (I seed), .int .i64 n] w fun e w' => ∃ v, e = .returned (.tuple #[v, .int .i64 0]) ∧ w'.ownsRow w.heap.size 22 1 v n (L (words seed n)) ∧ Below w.heap.size w w' :=
  (mixWords_row seed n h w).mono fun _ _ ⟨_, h1, h2⟩ => ⟨_, h1, h2⟩

theorem refWords_bad (seed : BitVec 64) (n : Int) (h : n < 0 ∨ 65536 < n) (w : World) : Calls Try.prog 18 #[.int .u64 (I seed), .int .i64 n] w fun e w' => e = .returned (.tuple #[.slice none 0 0, .int .i64 2]) ∧ w = w' := by
  rcases h with h | h
  · go_enter Try.func18, Try.ntmps18
    go_wp2
    go_ret2
    exact ⟨rfl, rfl⟩
  · have h0 : ¬ n < 0 := by omega
    go_enter Try.func18, Try.ntmps18
    go_wp2
    go_ret2
    exact ⟨rfl, rfl⟩

theorem word_arg (seed : BitVec 64) (k : Nat) (h : k < 65536) : IntKind.u64.wrap (I seed + IntKind.u64.wrap (((k : Int) + 1) * 11400714819323198485)) = I (seed + BitVec.ofNat 64 (k + 1) * G) := by
  have e : (k : Int) + 1 = I (BitVec.ofNat 64 (k + 1)) := by
    unfold I
    rw [BitVec.toNat_ofNat, Nat.mod_eq_of_lt (by omega)]
    omega
  rw [e, ← G_is, I_mul, I_add]

theorem refWords_any (seed : BitVec 64) (n : Nat) (h : n ≤ 65536) (w : World) : Calls Try.prog 18 #[.int .u64 (I seed), .int .i64 n] w fun e w' => ∃ v, e = .returned (.tuple #[v, .int .i64 0]) ∧ w'.ownsRow w.heap.size 22 1 v n (L (words seed n)) ∧ Below w.heap.size w w' := by
  have h1 : ¬ (65536 : Int) < n := by omega
  have H := hid h
  clear h
  go_enter Try.func18, Try.ntmps18
  go_wp2
  clear h1
  have hbig : n ≤ 9223372036854775806 := by have := H.out; omega
  go_loopw [6, 7] (fun v i wr => ∃ k : Nat, k ≤ n ∧ i = .int .i64 (k + 1 : Int) ∧ wr.ownsRow w.heap.size 22 1 v k (L (words seed k)) ∧ Below w.heap.size w wr) (fun _ i _ => n + 1 - (intOf i).toNat)
  case atStart => exact ⟨0, Nat.zero_le _, rfl, World.ownsRow_nil _ _ _ _, Below.refl _ _⟩
  case round =>
    obtain ⟨k, hk, rfl, hown, hbel⟩ := hrel
    have HO := hid hown
    have HB := hid hbel
    clear hown hbel
    by_cases hlt : k < n
    · go_wp2_with fail
      refine (refHash_any (seed + BitVec.ofNat 64 (k + 1) * G) _ (word_arg seed k (by have := H.out; omega)) _).mono ?_
      rintro e w1 ⟨rfl, rfl⟩
      obtain ⟨i0, hi, hz0, hz1, hz2⟩ := info_parts info22
      go_wp2_with (at_builtin; refine wpList_append_own _ rfl _ _ 29 rfl w.heap.size 22 i0 (.int .u64 0) 1 8 Try.underlying29 hi hz0 hz1 hz2 rfl (by decide) _ _ _ rfl (HO.out.alloc _) ⟨wr.heap.size, 0, none⟩ 1 1 [.int .u64 (I (word seed k))] rfl rfl ?c1 ?c2 ?c3 ?c4 ?c5 ?_)
      case c1 => exact cell_one_new _ _ _
      case c2 => intro u hu; simp at hu; subst hu; rfl
      case c3 => have := H.out; unfold maxLen; omega
      case c4 => have := H.out; omega
      case c5 => have := HB.out.size; simp; omega
      · intro v' w2 hown' hgrow _
        have hlt' := HO.out.lt
        have hB2 : Below w.heap.size w w2 := (HB.out.alloc (by have := HB.out.size; omega) _).grown hgrow (by have := HB.out.size; simp; omega) (fun j hj => (hlt' j hj).1)
        have hO2 : w2.ownsRow w.heap.size 22 1 v' (k + 1) (L (words seed (k + 1))) := by
          rw [words_succ]; simpa [L] using hown'
        clear hlt' hown' hgrow
        have HO2 := hid hO2
        have HB2 := hid hB2
        clear hO2 hB2
        go_wp2
        go_roundw
        case rel => exact ⟨k + 1, by omega, by go_num, HO2.out, HB2.out⟩
        case measure => simp [intOf]; omega
    · go_wp2
      go_ret2
      obtain rfl : k = n := by omega
      exact ⟨_, rfl, HO.out, HB.out⟩
theorem pick_any (x n : Int) (hn : 1 ≤ n) (hn2 : n ≤ 9223372036854775807) (w : World) : Calls Try.prog 20 #[.int .i64 x, .int .i64 n] w fun e w' => e = .returned (.int .i64 (x % n)) ∧ w = w' := by
  have h0 : ¬ n < 1 := by omega
  have hz : (n == 0) = false := by simp; omega
  have k1 : x.tmod n < n := Int.tmod_lt_of_pos _ (by omega)
  have k2 : -n < x.tmod n := by
    have := Int.lt_tmod_of_pos x (b := n) (by omega)
    omega
  have E : (if x.tmod n < 0 then x.tmod n + n else x.tmod n) = x % n := by
    rw [Int.tmod_eq_emod]
    have e1 := Int.emod_nonneg x (b := n) (by omega)
    have e2 := Int.emod_lt_of_pos x (b := n) (by omega)
    split <;> split <;> omega
  have HE := hid E
  clear E
  by_cases c : x.tmod n < 0
  · go_enter Try.func20, Try.ntmps20
    go_wp2
    go_ret
    exact ⟨by rw [← HE.out, if_pos c]; rfl, rfl⟩
  · go_enter Try.func20, Try.ntmps20
    go_wp2
    go_ret
    exact ⟨by rw [← HE.out, if_neg (by omega)]; rfl, rfl⟩
theorem mixWordsLaw_bad (seed : BitVec 64) (n : Int) (h : n < 0 ∨ 65536 < n) (w : World) : Calls Try.prog 7 #[.int .u64 (I seed), .int .i64 n] w fun e w' => e = .returned (.bool true) ∧ Below w.heap.size w w' := by
  have H := hid h
  clear h
  go_enter Try.func7, Try.ntmps7
  go_wp2_with fail
  refine (mixWords_bad seed n H.out _).mono ?_
  rintro e w1 ⟨rfl, rfl⟩
  go_wp2_with fail
  refine (refWords_bad seed n H.out _).mono ?_
  rintro e w1 ⟨rfl, rfl⟩
  go_wp2_with fail
  refine (same_any [] [] _ _ _ (Sl_nil _) (Sl_nil _)).mono ?_
  rintro e w1 ⟨rfl, m, rfl⟩
  go_wp2_with fail
  refine (awake_any _).mono ?_
  rintro e w1 ⟨rfl, rfl⟩
  go_wp2_with fail
  go_ret
  exact ⟨rfl, below_drewN (Below.refl _ _) _⟩
theorem mixWordsLaw_any (seed : BitVec 64) (n : Nat) (h : n ≤ 65536) (w : World) : Calls Try.prog 7 #[.int .u64 (I seed), .int .i64 n] w fun e w' => e = .returned (.bool true) ∧ Below w.heap.size w w' := by
  have H := hid h
  clear h
  go_enter Try.func7, Try.ntmps7
  go_wp2_with fail
  refine (mixWords_any seed n H.out _).mono ?_
  rintro e w1 ⟨v1, rfl, ho1, hb1⟩
  have HO1 := hid ho1
  have HB1 := hid hb1
  clear ho1 hb1
  go_wp2_with fail
  refine (refWords_any seed n H.out _).mono ?_
  rintro e w2 ⟨v2, rfl, ho2, hb2⟩
  have HO2 := hid ho2
  have HB2 := hid hb2
  clear ho2 hb2
  go_wp2_with fail
  refine (same_any (words seed n) (words seed n) _ _ _ (Sl_below (Sl_of_own HO1.out) HB2.out (Nat.le_refl _)) (Sl_of_own HO2.out)).mono ?_
  rintro e w3 ⟨rfl, m, rfl⟩
  rw [decide_eq_true (rfl : words seed n = words seed n)]
  go_wp2_with fail
  refine (awake_any _).mono ?_
  rintro e w4 ⟨rfl, rfl⟩
  go_wp2_with fail
  go_ret
  exact ⟨rfl, below_drewN (HB1.out.trans (HB2.out.mono HB1.out.size)) _⟩

theorem mixWords_at (seed : BitVec 64) (s m : Int) (n : Nat) (hs : s = I seed) (hm : m = n) (h : n ≤ 65536) (w : World) : Calls Try.prog 17 #[.int .u64 s, .int .i64 m] w fun e w' => ∃ v, e = .returned (.tuple #[v, .int .i64 0]) ∧ w'.ownsRow w.heap.size 22 1 v n (L (words seed n)) ∧ Below w.heap.size w w' := by
  subst hs hm; exact mixWords_any seed n h w
theorem refWords_at (seed : BitVec 64) (s m : Int) (n : Nat) (hs : s = I seed) (hm : m = n) (h : n ≤ 65536) (w : World) : Calls Try.prog 18 #[.int .u64 s, .int .i64 m] w fun e w' => ∃ v, e = .returned (.tuple #[v, .int .i64 0]) ∧ w'.ownsRow w.heap.size 22 1 v n (L (words seed n)) ∧ Below w.heap.size w w' := by
  subst hs hm; exact refWords_any seed n h w
theorem mixWords_badAt (seed : BitVec 64) (s n : Int) (hs : s = I seed) (h : n < 0 ∨ 65536 < n) (w : World) : Calls Try.prog 17 #[.int .u64 s, .int .i64 n] w fun e w' => e = .returned (.tuple #[.slice none 0 0, .int .i64 2]) ∧ w = w' := by
  subst hs; exact mixWords_bad seed n h w

theorem mixNumbers_any (w : World) : Calls Try.prog 6 #[] w fun e w' => e = .returned (.bool true) ∧ Below w.heap.size w w' := by
  have e1 : I (hash 0#64) = 0 := by decide +kernel
  have E1 := hid e1
  clear e1
  obtain ⟨n, hn⟩ : ∃ n : Nat, n = 65536 := ⟨_, rfl⟩
  have HN := hid hn
  clear hn
  have five : (5 : Int) = I 5#64 := by decide
  have F := hid five
  clear five
  go_enter Try.func6, Try.ntmps6
  go_wp2_with fail
  refine (mixWords_at 5#64 _ _ n F.out (by rw [HN.out]; rfl) (by rw [HN.out]; exact Nat.le_refl _) _).mono ?_
  rintro e w1 ⟨v1, rfl, ho1, hb1⟩
  have HO1 := hid ho1
  have HB1 := hid hb1
  clear ho1 hb1
  go_wp2_with fail
  refine (mixWords_badAt 5#64 _ _ F.out (Or.inr (by decide)) _).mono ?_
  rintro e w2 ⟨rfl, rfl⟩
  go_wp2_with fail
  refine (mixWords_badAt 5#64 _ _ F.out (Or.inl (by decide)) _).mono ?_
  rintro e w2 ⟨rfl, rfl⟩
  go_wp2_with fail
  refine (mixWords_at 5#64 _ _ 0 F.out rfl (Nat.zero_le _) _).mono ?_
  rintro e w2 ⟨v2, rfl, ho2, hb2⟩
  obtain ⟨a2, c2, rfl, _, _⟩ := own_form ho2
  have HB2 := hid hb2
  clear ho2 hb2
  go_wp2_with fail
  refine (refWords_at 5#64 _ _ n F.out (by rw [HN.out]; rfl) (by rw [HN.out]; exact Nat.le_refl _) _).mono ?_
  rintro e w3 ⟨v3, rfl, ho3, hb3⟩
  have HO3 := hid ho3
  have HB3 := hid hb3
  clear ho3 hb3
  go_wp2_with fail
  refine (same_any (words 5#64 n) (words 5#64 n) _ _ _ (Sl_below (Sl_below (Sl_of_own HO1.out) HB2.out (Nat.le_refl _)) HB3.out (Nat.le_refl _)) (Sl_of_own HO3.out)).mono ?_
  rintro e w4 ⟨rfl, m, rfl⟩
  rw [decide_eq_true (rfl : words 5#64 n = words 5#64 n)]
  go_wp2_with fail
  refine (hash_any 0#64 _ (by decide) _).mono ?_
  rintro e w5 ⟨rfl, rfl⟩
  rw [E1.out]
  go_wp2_with fail
  refine (text_any ⟨#[]⟩ _ (by decide)).mono ?_
  rintro e w5 ⟨rfl, rfl⟩
  rw [show I (textOf B0 (ByteArray.mk #[]).data.toList) = 14695981039346656037 from B0_is]
  go_wp2_with fail
  refine (awake_any _).mono ?_
  rintro e w5 ⟨rfl, rfl⟩
  go_wp2_with fail
  go_ret
  exact ⟨rfl, below_drewN ((HB1.out.trans (HB2.out.mono HB1.out.size)).trans (HB3.out.mono (Nat.le_trans HB1.out.size HB2.out.size))) _⟩

/-- new blocks, and nothing that was there turned: as the row's step wants it -/
theorem grown_of_below {w w' : World} (h : Below w.heap.size w w') : Below w.heap.size w w' := h
end Go.Proofs.Ytlflgcnfeapbnaa
