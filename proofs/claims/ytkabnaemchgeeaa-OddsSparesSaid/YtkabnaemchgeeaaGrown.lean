/- A row's next one, the sum behind a place: the program's. -/
import Derived.Test.YtkabnaemchgeeaaBody
import Derived.Test.YtkabnaemchgeeaaOddsPlain
import Derived.RegionTactic
import Derived.Maps.AppendAt
namespace Go.Proofs.Ytkabnaemchgeeaa
open Go.RowKit FloatPlain

/-- a row's cells -/
def Fb (q : List Nat) : List Value := q.map (Value.float .f64)
theorem Fb_len (q : List Nat) : (Fb q).length = q.length := by simp [Fb]
theorem Fb_get {q : List Nat} {k : Nat} (h : k < q.length) : (Fb q)[k]? = some (.float .f64 (at0 q k)) := by
  rw [at0_lt h]; simp [Fb, h]
theorem Fb_one (q : List Nat) : ∀ u ∈ Fb q, u.oneCell' = true := by
  intro u hu
  simp only [Fb, List.mem_map] at hu
  obtain ⟨b, _, rfl⟩ := hu
  rfl
theorem Fb_set (q : List Nat) (k x : Nat) : (Fb q).set k (.float .f64 x) = Fb (q.set k x) := by simp [Fb, List.map_set]

theorem mul_run {a b c : Nat} (h : Ieee.double.mul a b = some c) (t : TypeId) (w : World) : (binOp .mul t (.float .f64 a) (.float .f64 b)).run Try.prog w = .ok (.float .f64 c) w := run_float_arith w .mul t .f64 a b c h
theorem add_run {a b c : Nat} (h : Ieee.double.add a b = some c) (t : TypeId) (w : World) : (binOp .add t (.float .f64 a) (.float .f64 b)).run Try.prog w = .ok (.float .f64 c) w := run_float_arith w .add t .f64 a b c h
theorem sub_run {a b c : Nat} (h : Ieee.double.sub a b = some c) (t : TypeId) (w : World) : (binOp .sub t (.float .f64 a) (.float .f64 b)).run Try.prog w = .ok (.float .f64 c) w := run_float_arith w .sub t .f64 a b c h

theorem store_run (a : Addr) (x : Nat) (w : World) : (store a (.float .f64 x)).run Try.prog w = stored Try.prog w a (.float .f64 x) .plain := run_store Try.prog w a _ _ rfl

theorem likely_any (x : Nat) (w : World) : Calls Try.prog 28 #[.float .f64 x] w fun e w' => e = .returned (.bool (likB x)) ∧ w = w' := by
  obtain ⟨g1, h1⟩ : ∃ b, (FloatKind.f64.format.order x 0 == some .gt || FloatKind.f64.format.order x 0 == some .eq) = b := ⟨_, rfl⟩
  obtain ⟨g2, h2⟩ : ∃ b, (FloatKind.f64.format.order x 4607182418800017408 == some .lt || FloatKind.f64.format.order x 4607182418800017408 == some .eq) = b := ⟨_, rfl⟩
  have h : likB x = (g1 && g2) := by subst h1 h2; rfl
  rw [h]
  clear h
  cases g1 <;> cases g2
  all_goals
    go_enter Try.func28, Try.ntmps28
    go_wp2_with fail
    go_ret
    exact ⟨rfl, rfl⟩
theorem refLikely_any (x : Nat) (w : World) : Calls Try.prog 31 #[.float .f64 x] w fun e w' => e = .returned (.bool (likB x)) ∧ w = w' := by
  obtain ⟨g1, h1⟩ : ∃ b, (FloatKind.f64.format.order x 0 == some .gt || FloatKind.f64.format.order x 0 == some .eq) = b := ⟨_, rfl⟩
  obtain ⟨g2, h2⟩ : ∃ b, (FloatKind.f64.format.order x 4607182418800017408 == some .lt || FloatKind.f64.format.order x 4607182418800017408 == some .eq) = b := ⟨_, rfl⟩
  have h : likB x = (g1 && g2) := by subst h1 h2; rfl
  rw [h]
  clear h
  cases g1 <;> cases g2
  all_goals
    go_enter Try.func31, Try.ntmps31
    go_wp2_with fail
    go_ret
    exact ⟨rfl, rfl⟩

theorem info22 : (Try.prog.info? 22).map (fun i => (i.zero, i.size, i.bytes)) = some (some (.float .f64 0), 1, 8) := by kernel_rfl
theorem info_parts {i : Option TypeInfo} {z : Option Value} {s b : Nat} (h : i.map (fun i => (i.zero, i.size, i.bytes)) = some (z, s, b)) : ∃ i0, i = some i0 ∧ i0.zero = z ∧ i0.size = s ∧ i0.bytes = b := by
  cases i with
  | none => cases h
  | some i0 => simp only [Option.map_some, Option.some.injEq, Prod.mk.injEq] at h; exact ⟨i0, rfl, h.1, h.2.1, h.2.2⟩

/-- the row while it is turned, from behind: up to place k it is as it was -/
def midRow (q : List Nat) (p r k : Nat) : List Nat := (List.range (q.length + 1)).map fun i => if i ≤ k then at0 q i else cell q p r i
theorem midRow_len (q : List Nat) (p r k : Nat) : (midRow q p r k).length = q.length + 1 := by simp [midRow]
theorem midRow_at0 (q : List Nat) (p r k i : Nat) (h : i < q.length + 1) : at0 (midRow q p r k) i = if i ≤ k then at0 q i else cell q p r i := by
  rw [at0_lt (by rw [midRow_len]; exact h)]; simp [midRow]
theorem midRow_all (q : List Nat) (p r : Nat) : midRow q p r q.length = q ++ [0] := by
  apply List.ext_getElem?
  intro i
  by_cases h : i < q.length + 1
  · have h1 : (midRow q p r q.length)[i]? = some (at0 q i) := by
      rw [List.getElem?_eq_getElem (by rw [midRow_len]; exact h)]
      simp [midRow]; omega
    rw [h1]
    rcases Nat.lt_or_ge i q.length with c | c
    · rw [List.getElem?_append_left c, at0_lt c, List.getElem?_eq_getElem c]
    · obtain rfl : i = q.length := by omega
      rw [at0_ge (Nat.le_refl _)]; simp
  · rw [List.getElem?_eq_none (by rw [midRow_len]; omega), List.getElem?_eq_none (by simp; omega)]
theorem midRow_set (q : List Nat) (p r k : Nat) (_h : k < q.length) : (midRow q p r (k + 1)).set (k + 1) (cell q p r (k + 1)) = midRow q p r k := by
  apply List.ext_getElem?
  intro i
  by_cases hi : i < q.length + 1
  · rw [List.getElem?_set]
    by_cases e : k + 1 = i
    · subst e
      rw [if_pos rfl, if_pos (by rw [midRow_len]; omega)]
      simp only [midRow, List.getElem?_map, List.getElem?_range hi, Option.map_some]
      rw [if_neg (by omega)]
    · rw [if_neg e]
      simp only [midRow, List.getElem?_map, List.getElem?_range hi, Option.map_some, Option.some.injEq]
      by_cases c : i ≤ k
      · rw [if_pos c, if_pos (by omega)]
      · rw [if_neg c, if_neg (by omega)]
  · rw [List.getElem?_eq_none (by rw [List.length_set, midRow_len]; omega), List.getElem?_eq_none (by rw [midRow_len]; omega)]
theorem midRow_end (q : List Nat) (p r : Nat) : (midRow q p r 0).set 0 (fmul (at0 q 0) r) = nextRow q p r := by
  apply List.ext_getElem?
  intro i
  by_cases hi : i < q.length + 1
  · rw [List.getElem?_set]
    by_cases e : 0 = i
    · subst e
      rw [if_pos rfl, if_pos (by rw [midRow_len]; omega)]
      simp [nextRow, cell]
    · rw [if_neg e]
      simp only [midRow, nextRow, List.getElem?_map, List.getElem?_range hi, Option.map_some, Option.some.injEq]
      rw [if_neg (by omega)]
  · rw [List.getElem?_eq_none (by rw [List.length_set, midRow_len]; omega), List.getElem?_eq_none (by rw [nextRow_len]; omega)]

theorem own_some {w : World} {base n : Nat} {e : TypeId} {v : Value} {xs : List Value} (h : w.ownsRow base e 1 v n xs) (hn : 0 < n) : ∃ g cap, v = .slice (some ⟨g, 0, none⟩) n cap ∧ n ≤ cap ∧ base ≤ g := by
  rcases h.2 with ⟨_, h0⟩ | ⟨g, cap, cur, rfl, hb, hg, hnc, _⟩
  · omega
  · exact ⟨g, cap, rfl, hnc, hb⟩

set_option maxHeartbeats 1000000 in
theorem grown_any (v : Value) (q : List Nat) (p : Nat) (w : World) (B : Nat) (hB : B ≤ w.heap.size) (hown : w.ownsRow B 22 1 v q.length (Fb q)) (h0 : 0 < q.length) (h1 : q.length ≤ 10000)
    (hok : Okay q p (fsub one p)) (hr : Ieee.double.sub one p = some (fsub one p)) :
    Calls Try.prog 29 #[v, .float .f64 p] w fun e w' => ∃ v', e = .returned v' ∧ w'.ownsRow B 22 1 v' (q.length + 1) (Fb (nextRow q p (fsub one p))) ∧ Below B w w' := by
  obtain ⟨i0, hi, hz0, hz1, hz2⟩ := info_parts info22
  have HI := hid hi
  have HZ := hid hz2
  clear hi hz2
  obtain ⟨r, hrr⟩ : ∃ r, fsub one p = r := ⟨_, rfl⟩
  rw [hrr] at hok hr ⊢
  have hsub := sub_run hr
  unfold one at hsub
  obtain ⟨n, hn⟩ : ∃ n, q.length = n := ⟨_, rfl⟩
  have HN := hid hn
  rw [hn] at hown h0 h1 ⊢
  have HO := hid hown
  have HOK := hid hok
  clear hr hrr hn hown hok
  have hvb : ∀ k, v.ownBlock = some k → B ≤ k := fun k hk => (HO.out.lt k hk).1
  have HVB := hid hvb
  clear hvb
  go_enter Try.func29, Try.ntmps29
  go_wp2_with (at_builtin; refine wpList_append_own _ rfl _ _ 29 rfl B 22 i0 (.float .f64 0) 1 8 Try.underlying29 HI.out hz0 hz1 HZ.out rfl (by decide) v n (Fb q) rfl (HO.out.alloc _) ⟨w.heap.size, 0, none⟩ 1 1 [.float .f64 0] rfl rfl (cell_one_new _ _ _) (by intro u hu; rw [List.mem_singleton] at hu; subst hu; rfl) (by unfold maxLen; omega) (by omega) (by simp; omega) ?_; intro v1 w1 hown1 hgrow1 _; obtain ⟨g, cap, rfl, hcap, hbg⟩ := own_some hown1 (by omega))
  have hb1 : Below B w w1 := ((Below.refl B w).alloc hB _).grown hgrow1 (by simp; omega) HVB.out
  have HB1 := hid hb1
  have ho1 : w1.ownsRow B 22 1 (.slice (some ⟨g, 0, none⟩) (n + 1) cap) (n + 1) (Fb (midRow q p r n)) := by
    have e : midRow q p r n = q ++ [0] := by
      have := midRow_all q p r
      rw [HN.out] at this
      exact this
    rw [e]
    simpa [Fb] using hown1
  have HO1 := hid ho1
  have HBG := hid hbg
  clear hb1 ho1 hown1 hgrow1 hbg
  go_loopw [6] (fun i wr => ∃ k : Nat, k ≤ n ∧ i = .int .i64 k ∧ wr.ownsRow B 22 1 (.slice (some ⟨g, 0, none⟩) (n + 1) cap) (n + 1) (Fb (midRow q p r k)) ∧ Below B w wr) (fun i _ => (intOf i).toNat)
  case atStart => exact ⟨n, by omega, by go_num, HO1.out, HB1.out⟩
  case round =>
    obtain ⟨k, hk, rfl, hoR, hbR⟩ := hrel
    have HOR := hid hoR
    have HBR := hid hbR
    clear hoR hbR
    by_cases hpos : 0 < k
    · obtain ⟨j, hj⟩ : ∃ j, k = j + 1 := ⟨k - 1, by omega⟩
      have hpos' : (0 : Int) < (k : Int) := by omega
      have hw1 : IntKind.i64.wrap ((k : Int) - 1) = (j : Int) := by rw [IntKind.wrap_i64]; omega
      have hlt1 : (k : Int) < (n : Int) + 1 := by omega
      have hlt2 : (j : Int) < (n : Int) + 1 := by omega
      have hck : wr.cell? ⟨g, k, none⟩ = some (.float .f64 (at0 q k)) := by
        rw [HOR.out.cellAt k (by omega), Fb_get (by rw [midRow_len, HN.out]; omega), midRow_at0 _ _ _ _ _ (by rw [HN.out]; omega), if_pos (Nat.le_refl _)]
      have hcj : wr.cell? ⟨g, j, none⟩ = some (.float .f64 (at0 q j)) := by
        rw [HOR.out.cellAt j (by omega), Fb_get (by rw [midRow_len, HN.out]; omega), midRow_at0 _ _ _ _ _ (by rw [HN.out]; omega), if_pos (by omega)]
      have hm1 := mul_run (HOK.out.mr k)
      have hm2 := mul_run (HOK.out.mp j)
      have ha := add_run (HOK.out.ad j)
      rw [← hj] at ha
      have hcell : cell q p r k = fadd (fmul (at0 q k) r) (fmul (at0 q j) p) := by
        unfold cell
        rw [if_neg (by omega), show k - 1 = j by omega]
      have hfr : wr.frozen? ⟨g, k, none⟩ = false := HOR.out.frozenAt k
      have hst := HOR.out.stored k (.float .f64 (cell q p r k))
      rw [Fb_set] at hst
      have hset := midRow_set q p r j (by rw [HN.out]; omega)
      rw [← hj] at hset
      rw [hset] at hst
      have HST := hid hst
      rw [← hcell] at ha
      clear hset hst hcell
      generalize at0 q k = A at hck hm1 ha
      generalize at0 q j = A' at hcj hm2 ha
      generalize fmul A r = M1 at hm1 ha
      generalize fmul A' p = M2 at hm2 ha
      generalize cell q p r k = S at ha HST
      have HJN := hid (show j ≤ n by omega)
      have HJK := hid (show j < k by omega)
      clear hj
      have hstf := store_run
      go_wp2_with fail
      go_region
      go_wp2_with fail
      go_roundw
      case rel => exact ⟨j, HJN.out, by go_num, HST.out.1.drew, (HBR.out.setCell HBG.out _).drew⟩
      case measure => have := HJK.out; simp [intOf]; omega
    · obtain rfl : k = 0 := by omega
      have hc0 : wr.cell? ⟨g, 0, none⟩ = some (.float .f64 (at0 q 0)) := by
        rw [HOR.out.cellAt 0 (by omega), Fb_get (by rw [midRow_len, HN.out]; omega), midRow_at0 _ _ _ _ _ (by rw [HN.out]; omega), if_pos (Nat.le_refl _)]
      have hm1 := mul_run (HOK.out.mr 0)
      have hfr : wr.frozen? ⟨g, 0, none⟩ = false := HOR.out.frozenAt 0
      have hst := HOR.out.stored 0 (.float .f64 (fmul (at0 q 0) r))
      rw [Fb_set, midRow_end] at hst
      have HST := hid hst
      clear hst
      have hlt1 : (0 : Int) < (n : Int) + 1 := by omega
      generalize at0 q 0 = A at hc0 hm1 HST
      generalize fmul A r = M1 at hm1 HST
      have hstf := store_run
      go_wp2_with fail
      go_ret
      exact ⟨_, rfl, HST.out.1, HBR.out.setCell HBG.out _⟩
end Go.Proofs.Ytkabnaemchgeeaa
