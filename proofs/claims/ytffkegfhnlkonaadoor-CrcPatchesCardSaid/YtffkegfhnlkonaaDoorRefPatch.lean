/- The document's Patch. -/
import Derived.Test.YtffkegfhnlkonaaDoorLent
import Derived.Maps.AppendAt
namespace Go.Proofs.YtffkegfhnlkonaaDoor
open Go.RowKit CrcPlain

theorem top_is (r : BitVec 32) : decide ((2147483648 : Int) ≤ J r) = r.getLsbD 31 := by
  have h : r.getLsbD 31 = decide (2147483648 ≤ r.toNat) := by
    have := BitVec.msb_eq_decide r
    rw [BitVec.msb_eq_getLsbD_last] at this
    simpa using this
  rw [h]
  unfold J
  by_cases e : 2147483648 ≤ r.toNat
  · rw [decide_eq_true e, decide_eq_true (by omega)]
  · rw [decide_eq_false e, decide_eq_false (by omega)]

theorem plus_one (x : BitVec 32) : IntKind.u32.wrap (J (x <<< 1) + 1) = J ((x <<< 1) ||| 1#32) := by
  have h : (x <<< 1) + 1#32 = (x <<< 1) ||| 1#32 := by
    apply BitVec.add_eq_or_of_and_eq_zero
    apply BitVec.eq_of_getLsbD_eq
    intro i hi
    rw [BitVec.getLsbD_and, BitVec.getLsbD_shiftLeft, BitVec.getLsbD_one]
    by_cases e : i = 0
    · subst e; simp
    · simp [e]
  rw [← h]
  unfold J
  rw [IntKind.wrap_u32', BitVec.toNat_add]
  simp

theorem back_yes (r : BitVec 32) (h : r.getLsbD 31 = true) : IntKind.u32.wrap (IntKind.u32.wrap (bits .xor .u32 (J r) 3988292384 * 2) + 1) = J (unstep r) := by
  rw [← poly_is, J_xor]
  have : IntKind.u32.wrap (J (r ^^^ P) * 2) = J ((r ^^^ P) <<< 1) := J_shl _ 1
  rw [this, plus_one]
  unfold unstep; rw [if_pos h]

theorem back_any (r : BitVec 32) (b : BitVec 8) (n m : Int) (hn : n = J r) (hm : m = K b) (w : World) : Calls Tryd.prog 32 #[.int .u32 n, .int .u8 m] w fun e w' => e = .returned (.int .u32 (J (unbyte r (wd b)))) ∧ w = w' := by
  subst hn hm
  go_enter Tryd.func32, Tryd.ntmps32
  go_wp2_with fail
  go_loop [0, 5] (fun x i => ∃ k : Nat, k ≤ 8 ∧ i = .int .i64 k ∧ x = .int .u32 (J (unsteps k r))) (fun _ i => 8 - (intOf i).toNat)
  case atStart => exact ⟨0, by omega, rfl, rfl⟩
  case round =>
    obtain ⟨k, hk, rfl, rfl⟩ := hrel
    have g0 := J_nonneg (unsteps k r)
    by_cases hlt : k < 8
    · have hlt' : (k : Int) < 8 := by omega
      have ht := top_is (unsteps k r)
      by_cases hb : (unsteps k r).getLsbD 31 = true
      · rw [hb] at ht
        have hge : (2147483648 : Int) ≤ J (unsteps k r) := by simpa using ht
        have hy := hid (back_yes _ hb)
        clear hb ht
        go_wp2
        go_round
        case rel => exact ⟨k + 1, by omega, by go_num, val_u32 (by have e := hy.out; simp only [IntKind.wrap_u32'] at e; rw [unsteps_succ', ← e]; omega)⟩
        case measure => simp [intOf]; omega
      · have hb' : (unsteps k r).getLsbD 31 = false := by simpa using hb
        rw [hb'] at ht
        have hge : ¬ (2147483648 : Int) ≤ J (unsteps k r) := by simpa using ht
        have hy := hid (unstep_no _ hb')
        clear hb hb' ht
        go_wp2
        go_round
        case rel => exact ⟨k + 1, by omega, by go_num, val_u32 (by have e := hy.out; rw [IntKind.wrap_u32'] at e; rw [unsteps_succ', ← e]; omega)⟩
        case measure => simp [intOf]; omega
    · obtain rfl : k = 8 := by omega
      have E0 : IntKind.u32.wrap (K b) = J (wd b) := by
        rw [J_wd, IntKind.wrap_u32']
        have := K_nonneg b; have := K_lt b; omega
      have E1 : bits .xor .u32 (J (unsteps 8 r)) (J (wd b)) = J (unbyte r (wd b)) := by
        rw [J_xor]; rfl
      clear g0
      go_wp2
      go_ret
      exact ⟨rfl, rfl⟩

theorem refPatch_bad (v : Value) (l : List (BitVec 8)) (z : Int) (want : Int) (w : World) (hv : Sl w v (Lb l)) (h : z < 0 ∨ (l.length : Int) - 4 < z) :
    Calls Tryd.prog 21 #[v, .int .i64 z, .int .u32 want] w fun e w' => e = .returned (.tuple #[.slice none 0 0, .int .i64 2]) ∧ w = w' := by
  obtain ⟨a, c, rfl, hc, hcm, _⟩ := hv
  rw [Lb_len] at hc ⊢
  unfold maxLen at hcm
  by_cases h0 : z < 0
  · go_enter Tryd.func21, Tryd.ntmps21
    go_wp2
    go_ret2
    exact ⟨rfl, rfl⟩
  · have h1 : (l.length : Int) - 4 < z := by omega
    clear h
    go_enter Tryd.func21, Tryd.ntmps21
    go_wp2
    go_ret2
    exact ⟨rfl, rfl⟩

theorem four_new (w : World) (x0 x1 x2 x3 : Value) (t : TypeId) : ∀ j u, [x0, x1, x2, x3][j]? = some u → (w.alloc (.cells #[x0, x1, x2, x3] t)).cell? ((⟨w.heap.size, 0, none⟩ : Addr).add j) = some u := by
  intro j u h
  rw [addr_add, Nat.zero_add, World.cell?_alloc_at _ _ _ _ rfl]
  simpa using h

theorem bytes4 (X : BitVec 32) : [Value.int .u8 (K (b8 X 0)), .int .u8 (K (b8 X 1)), .int .u8 (K (b8 X 2)), .int .u8 (K (b8 X 3))] = Lb ((List.range 4).map (b8 X)) := rfl

set_option maxRecDepth 6000 in
set_option maxHeartbeats 1000000 in
theorem refPatch_any (v : Value) (l : List (BitVec 8)) (p : Nat) (want : BitVec 32) (w : World) (hv : Sl w v (Lb l)) (hl : l.length ≤ 140737488351232) (hp : p + 4 ≤ l.length) :
    Calls Tryd.prog 21 #[v, .int .i64 p, .int .u32 (J want)] w fun e w' => ∃ v', e = .returned (.tuple #[v', .int .i64 0]) ∧ w'.ownsRow w.heap.size 5 1 v' l.length (Lb (patchTo (patchWord want l p) l p 4)) ∧ Below w.heap.size w w' := by
  have HV := hid hv
  obtain ⟨a, c, rfl, hc, hcm, h1⟩ := hv
  rw [Lb_len] at hc ⊢
  unfold maxLen at hcm
  obtain ⟨i0, hi, hz0, hz1, hz2⟩ := info_parts info5
  have HI := hid hi
  have HZ := hid hz2
  have HL := hid hl
  have HP := hid hp
  clear hl hi hz2
  rcases h1 with ⟨h0, _⟩ | ⟨b, off, rfl, hb, hcell⟩
  · have hl0 : l = [] := by simpa [Lb] using h0
    subst hl0
    simp at hp
  have HC := hid hcell
  have HBK := hid hb
  clear hcell hb
  have hneg : ¬ (p : Int) < 0 := by omega
  have hgt : ¬ (l.length : Int) - 4 < (p : Int) := by omega
  go_enter Tryd.func21, Tryd.ntmps21
  go_wp2_with fail
  go_loop [8, 9] (fun r i => ∃ k : Nat, k ≤ p ∧ i = .int .i64 k ∧ r = .int .u32 (J (run (~~~ 0#32) (ws (l.take k))))) (fun _ i => p - (intOf i).toNat)
  case atStart => exact ⟨0, Nat.zero_le _, rfl, rfl⟩
  case round =>
    obtain ⟨k, hk, rfl, rfl⟩ := hrel
    by_cases hlt : k < p
    · have hkl : k < l.length := by omega
      have hkl' : (k : Int) < (l.length : Int) := by omega
      have c1 : w.cell? ⟨b, off + k, none⟩ = some (.int .u8 (K l[k])) := HC.out k _ (Lb_get hkl)
      have hi : (k : Int) < (p : Int) := by omega
      have HR := hid (run_take (~~~ 0#32) l k hkl)
      go_wp2_with fail
      refine (byte_any (run (~~~ 0#32) (ws (l.take k))) l[k] _ _ rfl rfl _).mono ?_
      rintro e w' ⟨rfl, hw⟩
      obtain rfl := hw
      go_wp2_with fail
      go_round
      case rel => exact ⟨k + 1, by omega, by go_num, val_u32 (by rw [HR.out]; rfl)⟩
      case measure => simp [intOf]; omega
    · obtain rfl : k = p := by omega
      have hx : bits .xor .u32 (J want) 4294967295 = J (~~~ want) := by
        rw [show (4294967295 : Int) = J (BitVec.allOnes 32) by decide, J_xor, BitVec.xor_allOnes]
      obtain ⟨F, hF⟩ : ∃ F, run (~~~ 0#32) (ws (l.take k)) = F := ⟨_, rfl⟩
      rw [hF]
      have HF := hid hF
      clear hF
      go_wp2_with fail
      clear hx
      go_loop [10, 11] (fun r i => ∃ q : Nat, k + 4 ≤ q ∧ q ≤ l.length ∧ i = .int .i64 (q - 1 : Int) ∧ r = .int .u32 (J (backTo want l k q))) (fun _ i => (intOf i + 1).toNat)
      case atStart => exact ⟨l.length, by omega, by omega, rfl, val_u32 (by rw [backTo_start want l k hp])⟩
      case round =>
        obtain ⟨q, hpq, hql, rfl, rfl⟩ := hrel
        by_cases hlt : k + 4 < q
        · obtain ⟨q', rfl⟩ : ∃ q', q = q' + 1 := ⟨q - 1, by omega⟩
          have hq : q' < l.length := by omega
          have hi' : (q' : Int) < (l.length : Int) := by omega
          have cq : w.cell? ⟨b, off + q', none⟩ = some (.int .u8 (K l[q'])) := HC.out q' _ (Lb_get hq)
          have HR := hid (backTo_far want l k q' (by omega) hq)
          go_wp2_with fail
          refine (back_any (backTo want l k (q' + 1)) l[q'] _ _ rfl rfl _).mono ?_
          rintro e w' ⟨rfl, hw⟩
          obtain rfl := hw
          go_wp2_with fail
          go_round
          case rel => exact ⟨q', by omega, by omega, rfl, val_u32 (by rw [← HR.out]; rfl)⟩
          case measure => simp [intOf]
        · obtain rfl : q = k + 4 := by omega
          go_wp2_with fail
          go_loop [10, 12] (fun r i => ∃ j : Nat, j ≤ 4 ∧ i = .int .i64 j ∧ r = .int .u32 (J (backTo want l k (k + 4 - j)))) (fun _ i => 4 - (intOf i).toNat)
          case atStart => exact ⟨0, by omega, rfl, rfl⟩
          case round =>
            obtain ⟨j, hj, rfl, rfl⟩ := hrel
            by_cases hlt : j < 4
            · have hlt' : (j : Int) < 4 := by omega
              have HR := hid (backTo_near want l k (k + 4 - (j + 1)) (by omega))
              go_wp2_with fail
              refine (back_any (backTo want l k (k + 4 - j)) 0#8 _ _ rfl rfl _).mono ?_
              rintro e w' ⟨rfl, hw⟩
              obtain rfl := hw
              go_wp2_with fail
              go_round
              case rel =>
                refine ⟨j + 1, by omega, by go_num, val_u32 ?_⟩
                have h9 := HR.out
                rw [show k + 4 - (j + 1) + 1 = k + 4 - j by omega] at h9
                rw [← h9]
                unfold unbyte
                rw [show wd 0#8 = 0#32 from rfl, BitVec.xor_zero]
              case measure => simp [intOf]; omega
            · obtain rfl : j = 4 := by omega
              rw [show k + 4 - 4 = k by omega]
              obtain ⟨X, hX⟩ : ∃ X, patchWord want l k = X := ⟨_, rfl⟩
              have hx : bits .xor .u32 (J (backTo want l k k)) (J F) = J X := by
                rw [J_xor, ← HF.out, ← hX]; rfl
              have g0 := J_nonneg X
              have HX := hid hX
              clear hX
              have f0 : IntKind.u8.wrap (J X) = K (b8 X 0) := by have := K_b8 X 0; simpa using this
              have f1 : IntKind.u8.wrap (J X / 256) = K (b8 X 1) := K_b8 X 1
              have f2 : IntKind.u8.wrap (J X / 65536) = K (b8 X 2) := K_b8 X 2
              have f3 : IntKind.u8.wrap (J X / 16777216) = K (b8 X 3) := K_b8 X 3
              have e4 : ∀ j u, (Lb (l.take k))[j]? = some u → w.cell? ((⟨b, off, none⟩ : Addr).add j) = some u := fun j u hj => by
                rw [addr_add]
                refine HC.out j u ?_
                have h9 : Lb (l.take k) = (Lb l).take k := by simp [Lb]
                rw [h9, List.getElem?_take] at hj
                split at hj
                · exact hj
                · cases hj
              have E4 := hid e4
              have e5 : ∀ j u, (Lb (l.drop (k + 4)))[j]? = some u → w.cell? ((⟨b, off + (k + 4), none⟩ : Addr).add j) = some u := fun j u hj => by
                rw [addr_add, Nat.add_assoc]
                refine HC.out _ u ?_
                have h9 : Lb (l.drop (k + 4)) = (Lb l).drop (k + 4) := by simp [Lb]
                rw [h9, List.getElem?_drop] at hj
                exact hj
              have E5 := hid e5
              have L1 := hid (show (Lb (l.take k)).length = k * 1 by rw [Lb_len, List.length_take]; omega)
              have L2 := hid (show (Lb (l.drop (k + 4))).length = (l.length - (k + 4)) * 1 by rw [Lb_len, List.length_drop]; omega)
              clear e4 e5
              by_cases e2 : k + 4 = c
              all_goals try subst e2
              all_goals
                go_wp2_with (first
                  | (at_builtin; refine wpList_append_own _ rfl _ _ 23 rfl w.heap.size 5 i0 (.int .u8 0) 1 1 Tryd.underlying23 HI.out hz0 hz1 HZ.out rfl (by decide) _ 0 [] rfl (World.ownsRow_nil _ _ _ _) ⟨b, off, none⟩ k _ (Lb (l.take k)) rfl L1.out E4.out (Lb_one _) (by unfold maxLen; omega) (by have := HL.out; omega) (Nat.le_refl _) ?_; intro v1 w1 hown1 hgrow1 _; have HB1 := hid ((Below.refl w.heap.size w).grown hgrow1 (Nat.le_refl _) (fun k hk => absurd (show (none : Option Nat) = some k from hk) (by simp))); have HO1 : Hid (w1.ownsRow w.heap.size 5 1 v1 k (Lb (l.take k))) := hid (by simpa using hown1); clear hown1 hgrow1)
                  | (at_builtin; refine wpList_append_own _ rfl _ _ 23 rfl w.heap.size 5 i0 (.int .u8 0) 1 1 Tryd.underlying23 HI.out hz0 hz1 HZ.out rfl (by decide) _ k (Lb (l.take k)) rfl (HO1.out.alloc _) ⟨w1.heap.size, 0, none⟩ 4 _ _ rfl rfl (four_new _ _ _ _ _ _) (fun u hu => Lb_one ((List.range 4).map (b8 X)) u hu) (by unfold maxLen; omega) (by have := HL.out; omega) (by have := HB1.out.size; simp; omega) ?_; intro v2 w2 hown2 hgrow2 _; have HB2 := hid ((HB1.out.alloc HB1.out.size _).grown hgrow2 (by have := HB1.out.size; simp; omega) (fun k hk => (HO1.out.lt k hk).1)); have HO2 : Hid (w2.ownsRow w.heap.size 5 1 v2 (k + 4) (Lb (l.take k) ++ Lb ((List.range 4).map (b8 X)))) := hid hown2; clear hown2 hgrow2)
                  | (at_builtin; refine wpList_append_own _ rfl _ _ 23 rfl w.heap.size 5 i0 (.int .u8 0) 1 1 Tryd.underlying23 HI.out hz0 hz1 HZ.out rfl (by decide) _ (k + 4) (Lb (l.take k) ++ Lb ((List.range 4).map (b8 X))) rfl HO2.out ⟨b, off + (k + 4), none⟩ (l.length - (k + 4)) _ (Lb (l.drop (k + 4))) rfl L2.out (fun j u hj => by rw [HB2.out.cell (by rw [addr_add]; exact HBK.out)]; exact E5.out j u hj) (Lb_one _) (by unfold maxLen; omega) (by have := HL.out; omega) HB2.out.size ?_; intro v3 w3 hown3 hgrow3 _; have HB3 := hid (HB2.out.grown hgrow3 HB2.out.size (fun k hk => (HO2.out.lt k hk).1)); have HO3 := hid hown3; clear hown3 hgrow3)
                  | (at_builtin; refine wpList_append_own _ rfl _ _ 23 rfl w.heap.size 5 i0 (.int .u8 0) 1 1 Tryd.underlying23 HI.out hz0 hz1 HZ.out rfl (by decide) _ (k + 4) (Lb (l.take k) ++ Lb ((List.range 4).map (b8 X))) rfl HO2.out ⟨b, off, none⟩ (l.length - (k + 4)) _ (Lb (l.drop (k + 4))) rfl L2.out (fun j u hj => by rw [List.drop_of_length_le hc] at hj; simp [Lb] at hj) (Lb_one _) (by unfold maxLen; omega) (by have := HL.out; omega) HB2.out.size ?_; intro v3 w3 hown3 hgrow3 _; have HB3 := hid (HB2.out.grown hgrow3 HB2.out.size (fun k hk => (HO2.out.lt k hk).1)); have HO3 := hid hown3; clear hown3 hgrow3))
                go_ret2
                refine ⟨_, rfl, ?_, HB3.out⟩
                have h9 := HO3.out
                rw [show k + 4 + (l.length - (k + 4)) = l.length by omega, ← Lb_app, ← Lb_app] at h9
                rw [HX.out]
                exact h9
end Go.Proofs.YtffkegfhnlkonaaDoor
