/- The same floats, the same ints; the fixed answers. -/
import Derived.Test.YtnaogcpcaabbhaaLimits
import Derived.Test.YtnaogcpcaabbhaaUnits
import Derived.Deep.QuietTactic
import Derived.BigQuiet
namespace Go.Proofs.Ytnaogcpcaabbhaa
open Go.RowKit FloatPlain

theorem limits_no (v : Value) (fs : List (Nat × List Nat)) (s : Int) (w : World) (hv : Fl w v fs) (hwf : Wf fs) (h : ¬ (GoodF fs ∧ 0 ≤ s ∧ s ≤ 1024)) :
    Calls Try.prog 13 #[v, .int .i64 s] w fun e w' => e = .returned (.tuple #[.slice none 0 0, .int .i64 (err fs s)]) ∧ Below w.heap.size w w' := by
  have HV := hid hv
  have HWF := hid hwf
  have H := hid h
  have hne : ¬ err fs s = 0 := by
    unfold err
    split
    · rename_i hg
      rw [if_neg (fun h9 => h ⟨hg, h9⟩)]; decide
    · decide
  obtain ⟨E, hE⟩ : ∃ E, err fs s = E := ⟨_, rfl⟩
  rw [hE] at hne ⊢
  have HE := hid hE
  clear hv hwf h hE
  go_enter Try.func13, Try.ntmps13
  go_wp2_with fail
  refine (values_no _ fs s _ HV.out HWF.out H.out).mono ?_
  rintro e w1 ⟨rfl, hb⟩
  rw [HE.out]
  have HB := hid hb
  clear hb
  go_wp2_with fail
  go_ret2
  exact ⟨rfl, HB.out⟩

theorem bits_any (x : Nat) (w : World) : Calls Try.prog 22 #[.float .f64 x, .float .f64 x] w fun e w' => e = .returned (.bool true) ∧ w = w' := by
  have hbit := bits_real
  go_enter Try.func22, Try.ntmps22
  go_wp2_with fail
  go_ret
  exact ⟨rfl, rfl⟩

set_option maxRecDepth 8000 in
set_option maxHeartbeats 1000000 in
theorem same_any (u v : Value) (q : List Nat) (w : World) (hu : Sl w u (Fb q)) (hv : Sl w v (Fb q)) (h1 : q.length ≤ 10000) :
    Calls Try.prog 20 #[u, v] w fun e w' => e = .returned (.bool true) ∧ Below w.heap.size w w' := by
  obtain ⟨a1, c1, rfl, hc1, hm1, _⟩ := Sl_partsF hu
  obtain ⟨a2, c2, rfl, hc2, hm2, _⟩ := Sl_partsF hv
  have HU := hid hu
  have HV := hid hv
  obtain ⟨n, hn⟩ : ∃ n, q.length = n := ⟨_, rfl⟩
  have HN := hid hn
  rw [hn] at hc1 hc2 h1 HU HV ⊢
  unfold maxLen at hm1 hm2
  clear hu hv hn
  go_enter Try.func20, Try.ntmps20
  go_wp2_with fail
  go_loopw [5] (fun i wr => ∃ k : Nat, k ≤ n ∧ i = .int .i64 k ∧ Below w.heap.size w wr) (fun i _ => n - (intOf i).toNat)
  case atStart => exact ⟨0, by omega, rfl, Below.refl _ _⟩
  case round =>
    obtain ⟨k, hk, rfl, hb⟩ := hrel
    have HB := hid hb
    clear hb
    by_cases hlt : k < n
    · have hlt' : (k : Int) < (n : Int) := by omega
      obtain ⟨b1, o1, rfl, _, q1⟩ := Sl_cellF (k := k) (Sl_below HU.out HB.out (Nat.le_refl _)) (by rw [HN.out]; exact hlt)
      obtain ⟨b2, o2, rfl, _, q2⟩ := Sl_cellF (k := k) (Sl_below HV.out HB.out (Nat.le_refl _)) (by rw [HN.out]; exact hlt)
      generalize at0 q k = A at q1 q2
      go_wp2_with fail
      go_big_quiet (first | (go_at_call 22; refine Calls.quiet_of_same ((bits_any A _).mono fun e w' h => ⟨h.1, h.2.symm⟩)))
      go_wp2
      go_roundw
      case rel => exact ⟨k + 1, by omega, by go_num, below_drewN HB.out _⟩
      case measure => simp [intOf]; omega
    · obtain rfl : k = n := by omega
      go_wp2_with fail
      go_ret
      exact ⟨rfl, HB.out⟩

theorem Sl_partsI {w : World} {v : Value} {l : List Nat} (h : Sl w v (Ib l)) : ∃ a c, v = .slice a l.length c ∧ l.length ≤ c ∧ c ≤ maxLen ∧ (a = none → l.length = 0 ∧ c = 0) := by
  obtain ⟨a, c, rfl, hc, hcm, h1⟩ := h
  rw [Ib_len] at hc ⊢
  refine ⟨a, c, rfl, hc, hcm, ?_⟩
  rintro rfl
  rcases h1 with ⟨h0, rfl⟩ | ⟨b, off, h9, _⟩
  · exact ⟨by omega, rfl⟩
  · cases h9
theorem Sl_cellI {w : World} {a : Option Addr} {n c k : Nat} {l : List Nat} (h : Sl w (.slice a n c) (Ib l)) (hk : k < l.length) :
    ∃ b off, a = some ⟨b, off, none⟩ ∧ b < w.heap.size ∧ w.cell? ⟨b, off + k, none⟩ = some (.int .i64 (at0 l k : Nat)) := by
  obtain ⟨a', c', e, _, _, h9⟩ := h
  injection e with e1 e2 e3
  subst e1
  rcases h9 with ⟨h9, _⟩ | ⟨b, off, rfl, hb, hcell⟩
  · have := Ib_len l
    rw [h9] at this
    simp at this
    omega
  · exact ⟨b, off, rfl, hb, hcell k _ (Ib_get hk)⟩

set_option maxRecDepth 8000 in
set_option maxHeartbeats 1000000 in
theorem sameInts_any (u v : Value) (q : List Nat) (w : World) (hu : Sl w u (Ib q)) (hv : Sl w v (Ib q)) (h1 : q.length ≤ 10000) :
    Calls Try.prog 21 #[u, v] w fun e w' => e = .returned (.bool true) ∧ Below w.heap.size w w' := by
  obtain ⟨a1, c1, rfl, hc1, hm1, _⟩ := Sl_partsI hu
  obtain ⟨a2, c2, rfl, hc2, hm2, _⟩ := Sl_partsI hv
  have HU := hid hu
  have HV := hid hv
  obtain ⟨n, hn⟩ : ∃ n, q.length = n := ⟨_, rfl⟩
  have HN := hid hn
  rw [hn] at hc1 hc2 h1 HU HV ⊢
  unfold maxLen at hm1 hm2
  clear hu hv hn
  go_enter Try.func21, Try.ntmps21
  go_wp2_with fail
  go_loopw [5] (fun i wr => ∃ k : Nat, k ≤ n ∧ i = .int .i64 k ∧ Below w.heap.size w wr) (fun i _ => n - (intOf i).toNat)
  case atStart => exact ⟨0, by omega, rfl, Below.refl _ _⟩
  case round =>
    obtain ⟨k, hk, rfl, hb⟩ := hrel
    have HB := hid hb
    clear hb
    by_cases hlt : k < n
    · have hlt' : (k : Int) < (n : Int) := by omega
      obtain ⟨b1, o1, rfl, _, q1⟩ := Sl_cellI (k := k) (Sl_below HU.out HB.out (Nat.le_refl _)) (by rw [HN.out]; exact hlt)
      obtain ⟨b2, o2, rfl, _, q2⟩ := Sl_cellI (k := k) (Sl_below HV.out HB.out (Nat.le_refl _)) (by rw [HN.out]; exact hlt)
      obtain ⟨A, hA⟩ : ∃ A, ((at0 q k : Nat) : Int) = A := ⟨_, rfl⟩
      rw [hA] at q1 q2
      clear hA
      go_wp2_with fail
      go_region
      go_wp2
      go_roundw
      case rel => exact ⟨k + 1, by omega, by go_num, HB.out.drew⟩
      case measure => simp [intOf]; omega
    · obtain rfl : k = n := by omega
      go_wp2_with fail
      go_ret
      exact ⟨rfl, HB.out⟩

/-- the fares of 'two' -/
def twoF : List (Nat × List Nat) := [(4636737291354636288, [0, 4602678819172646912, 4602678819172646912]), (4630826316843712512, [0, 0, 4607182418800017408])]
theorem twoF_wf : Wf twoF := by
  have h1 : ∀ (l : List Nat) (j : Nat), (∀ x ∈ l, x < 18446744073709551616) → at0 l j < 18446744073709551616 := by
    intro l j h
    rcases Nat.lt_or_ge j l.length with c | c
    · rw [at0_lt c]; exact h _ (List.getElem_mem c)
    · rw [at0_ge c]; decide
  constructor
  · intro k
    match k with
    | 0 => decide
    | 1 => decide
    | k + 2 => show (0 : Nat) < _; decide
  · intro k j
    apply h1
    match k with
    | 0 => show ∀ x ∈ [0, 4602678819172646912, 4602678819172646912], _; decide
    | 1 => show ∀ x ∈ [0, 0, 4607182418800017408], _; decide
    | k + 2 => intro x hx; exact absurd hx (by show ¬ x ∈ ([] : List Nat); simp)
theorem lik_it {x : Nat} (h : x ≤ one) : Lik x := Or.inl h
theorem twoF_good : GoodF twoF := by
  refine ⟨by decide, by decide, fun k hk => ?_⟩
  have hk2 : k < 2 := hk
  match k, hk2 with
  | 0, _ =>
    refine ⟨by kernel_rfl, ⟨by decide, by decide, fun j hj => ?_⟩, by kernel_rfl⟩
    have hj3 : j < 3 := hj
    match j, hj3 with
    | 0, _ => exact lik_it (by decide)
    | 1, _ => exact lik_it (by decide)
    | 2, _ => exact lik_it (by decide)
  | 1, _ =>
    refine ⟨by kernel_rfl, ⟨by decide, by decide, fun j hj => ?_⟩, by kernel_rfl⟩
    have hj3 : j < 3 := hj
    match j, hj3 with
    | 0, _ => exact lik_it (by decide)
    | 1, _ => exact lik_it (by decide)
    | 2, _ => exact lik_it (by decide)

theorem own_of_cells {w : World} {g n cap base : Nat} {e : TypeId} {C : Array Value} {xs : List Value} (hg : w.heap[g]? = some (.cells C e (0, 0))) (hb : base ≤ g) (hn : n ≤ cap) (hm : cap ≤ maxLen) (hC : C.size = cap) (hx : C.toList.take n = xs) :
    w.ownsRow base e 1 (.slice (some ⟨g, 0, none⟩) n cap) n xs := by
  have hC' : C.toList.length = cap := by simpa using hC
  refine ⟨?_, Or.inr ⟨g, cap, C, rfl, hb, hg, hn, hm, by omega, by rw [Nat.mul_one]; exact hx⟩⟩
  rw [← hx, List.length_take, hC']; omega

theorem sl_lit (w : World) (x y z : Nat) : Sl (w.alloc (.cells #[.float .f64 x, .float .f64 y, .float .f64 z] 33)) (.slice (some ⟨w.heap.size, 0, none⟩) 3 3) (Fb [x, y, z]) :=
  Sl_of_own (own_of_cells (base := 0) (e := 33) (heap_alloc_new w _) (Nat.zero_le _) (Nat.le_refl _) (by unfold maxLen; omega) rfl rfl)

theorem two_fl (w : World) : Fl (((w.alloc (.cells #[.float .f64 0, .float .f64 4602678819172646912, .float .f64 4602678819172646912] 33)).alloc (.cells #[.float .f64 0, .float .f64 0, .float .f64 4607182418800017408] 33)).alloc
    (.cells #[.float .f64 4636737291354636288, .slice (some ⟨w.heap.size, 0, none⟩) 3 3, .float .f64 4630826316843712512, .slice (some ⟨w.heap.size + 1, 0, none⟩) 3 3] 48)) (.slice (some ⟨w.heap.size + 1 + 1, 0, none⟩) 2 2) twoF := by
  have s0 := sl_lit w 0 4602678819172646912 4602678819172646912
  obtain ⟨w1, hw1⟩ : ∃ w1, w.alloc (.cells #[.float .f64 0, .float .f64 4602678819172646912, .float .f64 4602678819172646912] 33) = w1 := ⟨_, rfl⟩
  have z1 : w1.heap.size = w.heap.size + 1 := by rw [← hw1]; simp
  rw [hw1] at s0 ⊢
  have s1 := sl_lit w1 0 0 4607182418800017408
  have s2 := Sl_below s0 ((Below.refl w1.heap.size w1).alloc (Nat.le_refl _) (.cells #[.float .f64 0, .float .f64 0, .float .f64 4607182418800017408] 33)) (Nat.le_refl _)
  obtain ⟨w2, hw2⟩ : ∃ w2, w1.alloc (.cells #[.float .f64 0, .float .f64 0, .float .f64 4607182418800017408] 33) = w2 := ⟨_, rfl⟩
  have z2 : w2.heap.size = w.heap.size + 1 + 1 := by rw [← hw2, ← z1]; simp
  rw [hw2] at s1 s2 ⊢
  rw [z1] at s1
  have c := World.cell?_alloc_new w2 #[.float .f64 4636737291354636288, .slice (some ⟨w.heap.size, 0, none⟩) 3 3, .float .f64 4630826316843712512, .slice (some ⟨w.heap.size + 1, 0, none⟩) 3 3] 48
  have b := (Below.refl w2.heap.size w2).alloc (Nat.le_refl _) (.cells #[.float .f64 4636737291354636288, .slice (some ⟨w.heap.size, 0, none⟩) 3 3, .float .f64 4630826316843712512, .slice (some ⟨w.heap.size + 1, 0, none⟩) 3 3] 48)
  have s3 := Sl_below s2 b (Nat.le_refl _)
  have s4 := Sl_below s1 b (Nat.le_refl _)
  obtain ⟨w3, hw3⟩ : ∃ w3, w2.alloc (.cells #[.float .f64 4636737291354636288, .slice (some ⟨w.heap.size, 0, none⟩) 3 3, .float .f64 4630826316843712512, .slice (some ⟨w.heap.size + 1, 0, none⟩) 3 3] 48) = w3 := ⟨_, rfl⟩
  have z3 : w3.heap.size = w.heap.size + 1 + 1 + 1 := by rw [← hw3, ← z2]; simp
  rw [hw3] at c s3 s4 ⊢
  rw [z2] at c
  refine ⟨_, 2, rfl, by decide, by unfold maxLen; omega, (fun h => by cases h), Or.inr ⟨_, 0, rfl, by omega, fun j f hj => ?_⟩⟩
  match j with
  | 0 =>
    obtain rfl : f = (4636737291354636288, [0, 4602678819172646912, 4602678819172646912]) := by
      have : some (4636737291354636288, [0, 4602678819172646912, 4602678819172646912]) = some f := hj
      injection this with this
      exact this.symm
    exact ⟨_, c 0, c 1, s3⟩
  | 1 =>
    obtain rfl : f = (4630826316843712512, [0, 0, 4607182418800017408]) := by
      have : some (4630826316843712512, [0, 0, 4607182418800017408]) = some f := hj
      injection this with this
      exact this.symm
    exact ⟨_, c 2, c 3, s4⟩
  | j + 2 =>
    have : (none : Option (Nat × List Nat)) = some f := hj
    cases this

set_option maxRecDepth 8000 in
theorem two_any (w : World) : Calls Try.prog 33 #[] w fun e w' => ∃ v, e = .returned v ∧ Fl w' v twoF ∧ Below w.heap.size w w' := by
  go_enter Try.func33, Try.ntmps33
  go_wp2_with fail
  go_ret
  exact ⟨_, rfl, two_fl w, (((Below.refl _ _).alloc (Nat.le_refl _) _).alloc (by simp) _).alloc (by simp; omega) _⟩

/-- 0, 100, 150, 190 -/
def L4 : List Nat := [0, 4636737291354636288, 4639481672377565184, 4640889047261118464]
theorem two_val : val0 twoF 3 twoF.length = L4 := by kernel_rfl
theorem two_lim : lims twoF 3 = [3, 1] := by kernel_rfl
theorem two_bid : bidOf twoF 3 = 4630826316843712512 := by kernel_rfl
theorem two_units : unV 4623139235229744497 = 1234 ∧ unE 4623139235229744497 = 0 := ⟨by kernel_rfl, by kernel_rfl⟩

theorem Sl_alloc {w : World} {v : Value} {xs : List Value} (h : Sl w v xs) (o : Obj) : Sl (w.alloc o) v xs := Sl_below h ((Below.refl w.heap.size w).alloc (Nat.le_refl _) o) (Nat.le_refl _)

theorem L4_own (w : World) : (w.alloc (.cells #[.float .f64 0, .float .f64 4636737291354636288, .float .f64 4639481672377565184, .float .f64 4640889047261118464] 33)).ownsRow w.heap.size 33 1 (.slice (some ⟨w.heap.size, 0, none⟩) 4 4) 4 (Fb L4) :=
  own_of_cells (heap_alloc_new w _) (Nat.le_refl _) (Nat.le_refl _) (by unfold maxLen; omega) rfl rfl
theorem L2_own (w : World) : (w.alloc (.cells #[.int .i64 3, .int .i64 1] 3)).ownsRow w.heap.size 3 1 (.slice (some ⟨w.heap.size, 0, none⟩) 2 2) 2 (Ib [3, 1]) :=
  own_of_cells (heap_alloc_new w _) (Nat.le_refl _) (Nat.le_refl _) (by unfold maxLen; omega) rfl rfl
theorem forty_eq : (FloatKind.f64.format.order 4630826316843712512 4630826316843712512 == some .eq) = true := by kernel_rfl

set_option maxRecDepth 8000 in
set_option maxHeartbeats 2000000 in
theorem awake_any (w : World) : Calls Try.prog 9 #[] w fun e w' => e = .returned (.bool true) ∧ Below w.heap.size w w' := by
  have hfq := forty_eq
  go_enter Try.func9, Try.ntmps9
  go_wp2_with fail
  refine (two_any _).mono ?_
  rintro e w1 ⟨v, rfl, hf, hb⟩
  have HB1 := hid hb
  have HF := hid hf
  clear hf hb
  go_wp2_with fail
  refine (values_any v twoF 3 _ HF.out twoF_wf twoF_good (by omega)).mono ?_
  rintro e w2 ⟨vv, rfl, ho, hb⟩
  rw [two_val] at ho
  have HB2 := hid (HB1.out.trans (hb.mono HB1.out.size))
  have HV := hid (Sl_of_own ho)
  clear ho hb
  go_wp2_with fail
  refine (two_any _).mono ?_
  rintro e w3 ⟨v3, rfl, hf, hb⟩
  have HB3 := hid (HB2.out.trans (hb.mono HB2.out.size))
  have HV3 := hid (Sl_below HV.out hb (Nat.le_refl _))
  have HF3 := hid hf
  clear hf hb
  go_wp2_with fail
  refine (limits_any v3 twoF 3 _ HF3.out twoF_wf twoF_good (by omega)).mono ?_
  rintro e w4 ⟨vl, rfl, ho, hb⟩
  rw [two_lim] at ho
  have HB4 := hid (HB3.out.trans (hb.mono HB3.out.size))
  have HV4 := hid (Sl_below HV3.out hb (Nat.le_refl _))
  have HL4 := hid (Sl_of_own ho)
  clear ho hb
  go_wp2_with fail
  refine (two_any _).mono ?_
  rintro e w5 ⟨v5, rfl, hf, hb⟩
  have HB5 := hid (HB4.out.trans (hb.mono HB4.out.size))
  have HV5 := hid (Sl_below HV4.out hb (Nat.le_refl _))
  have HL5 := hid (Sl_below HL4.out hb (Nat.le_refl _))
  have HF5 := hid hf
  clear hf hb
  go_wp2_with fail
  refine (bid_any v5 twoF 3 _ HF5.out twoF_wf twoF_good (by omega)).mono ?_
  rintro e w6 ⟨rfl, hb⟩
  rw [two_bid]
  have HB6 := hid (HB5.out.trans (hb.mono HB5.out.size))
  have HV6 := hid (Sl_below HV5.out hb (Nat.le_refl _))
  have HL6 := hid (Sl_below HL5.out hb (Nat.le_refl _))
  clear hb
  go_wp2_with fail
  refine (units_any 4623139235229744497 (by decide) _).mono ?_
  rintro e w7 ⟨rfl, hb⟩
  rw [two_units.1, two_units.2]
  have HB7 := hid (HB6.out.trans (hb.mono HB6.out.size))
  have HV7 := hid (Sl_below HV6.out hb (Nat.le_refl _))
  have HL7 := hid (Sl_below HL6.out hb (Nat.le_refl _))
  clear hb
  go_wp2_with fail
  refine (same_any _ _ L4 _ (Sl_alloc HV7.out _) (Sl_of_own (L4_own w7)) (by decide)).mono ?_
  rintro e w8 ⟨rfl, hb⟩
  have HB8 := hid ((HB7.out.alloc HB7.out.size _).trans (hb.mono (by have := HB7.out.size; simp; omega)))
  have HL8 := hid (Sl_below (Sl_alloc HL7.out _) hb (Nat.le_refl _))
  clear hb
  go_wp2_with fail
  refine (sameInts_any _ _ [3, 1] _ (Sl_alloc HL8.out _) (Sl_of_own (L2_own w8)) (by decide)).mono ?_
  rintro e w9 ⟨rfl, hb⟩
  have HB9 := hid ((HB8.out.alloc HB8.out.size _).trans (hb.mono (by have := HB8.out.size; simp; omega)))
  clear hb
  go_wp2_with fail
  go_ret
  exact ⟨rfl, HB9.out⟩

set_option maxHeartbeats 1000000 in
theorem faresUnits_any (x : Nat) (hx : x < 18446744073709551616) (w : World) : Calls Try.prog 4 #[.float .f64 x] w fun e w' => e = .returned (.bool true) ∧ Below w.heap.size w w' := by
  have HX := hid hx
  clear hx
  go_enter Try.func4, Try.ntmps4
  go_wp2_with fail
  refine (awake_any _).mono ?_
  rintro e w1 ⟨rfl, hb⟩
  have HB1 := hid hb
  clear hb
  go_wp2_with fail
  refine (units_any x HX.out _).mono ?_
  rintro e w2 ⟨rfl, hb⟩
  have HB2 := hid (HB1.out.trans (hb.mono HB1.out.size))
  clear hb
  go_wp2_with fail
  refine (refUnits_any x HX.out _).mono ?_
  rintro e w3 ⟨rfl, hb⟩
  have HB3 := hid (HB2.out.trans (hb.mono HB2.out.size))
  clear hb
  go_wp2_with fail
  go_ret
  exact ⟨rfl, HB3.out⟩
end Go.Proofs.Ytnaogcpcaabbhaa
