/- The next row: the program's. -/
import Derived.Test.YtnaogcpcaabbhaaBase
import Derived.Laws.OwnMore
namespace Go.Proofs.Ytnaogcpcaabbhaa
open Go.RowKit FloatPlain

/-- the best so far, before the k-th chance -/
def bestW (P : Nat) (w : List Nat) (x : Nat) : Nat → Nat
  | 0 => ninf
  | k + 1 => bestK P w x k

theorem bestK_step {P : Nat} {w : List Nat} {x j : Nat} (h : j + 1 ≤ x) : bestK P w x (j + 1) = max (bestK P w x j) (vK P w x (j + 1)) := by
  show (if j + 1 ≤ x then max (bestK P w x j) (vK P w x (j + 1)) else bestK P w x j) = _
  rw [if_pos h]
theorem bestK_stay {P : Nat} {w : List Nat} {x j : Nat} (h : ¬ j + 1 ≤ x) : bestK P w x (j + 1) = bestK P w x j := by
  show (if j + 1 ≤ x then max (bestK P w x j) (vK P w x (j + 1)) else bestK P w x j) = _
  rw [if_neg h]

/-- the row while it is filled: place x has k chances' sum -/
def cur (P : Nat) (w cs : List Nat) (x k : Nat) : List Nat := (List.range w.length).map fun i => if i < x then outK P w cs i cs.length else if i = x then outK P w cs x k else 0
theorem cur_len (P : Nat) (w cs : List Nat) (x k : Nat) : (cur P w cs x k).length = w.length := by simp [cur]
theorem cur_at (P : Nat) (w cs : List Nat) (x k : Nat) (h : x < w.length) : at0 (cur P w cs x k) x = outK P w cs x k := by
  rw [at0_lt (by rw [cur_len]; exact h)]; simp [cur]
theorem cur_set (P : Nat) (w cs : List Nat) (x k : Nat) : (cur P w cs x k).set x (outK P w cs x (k + 1)) = cur P w cs x (k + 1) := by
  apply List.ext_getElem
  · simp [cur]
  · intro i h1 h2
    rw [List.getElem_set]
    by_cases e : x = i
    · subst e; simp [cur]
    · have e2 : ¬ i = x := fun h => e h.symm
      simp [cur, e, e2]
theorem cur_zero (P : Nat) (w cs : List Nat) : cur P w cs 0 0 = List.replicate w.length 0 := by
  apply List.ext_getElem
  · simp [cur]
  · intro i h1 h2
    by_cases e : i = 0
    · subst e; simp [cur, outK]
    · simp [cur, e]
theorem cur_next (P : Nat) (w cs : List Nat) (x : Nat) : cur P w cs x cs.length = cur P w cs (x + 1) 0 := by
  apply List.ext_getElem
  · simp [cur]
  · intro i h1 h2
    simp only [cur, List.getElem_map, List.getElem_range, outK]
    by_cases e : i < x
    · rw [if_pos e, if_pos (by omega)]
    · by_cases e2 : i = x
      · subst e2
        rw [if_neg e, if_pos rfl, if_pos (by omega)]
      · rw [if_neg e, if_neg e2, if_neg (by omega)]
        split <;> rfl
theorem cur_all (P : Nat) (w cs : List Nat) : cur P w cs w.length 0 = nextV P cs w := by
  apply List.ext_getElem
  · simp [cur, nextV]
  · intro i h1 h2
    rw [cur_len] at h1
    simp [cur, nextV, h1]

theorem zerosF (n : Nat) : (madeCells (Value.float .f64 0).cells (n * 1)).toList = Fb (List.replicate n 0) := by
  rw [show (Value.float .f64 0).cells = #[Value.float .f64 0] from rfl, Nat.mul_one, toList_madeCells_one]
  simp [Fb]

theorem own_some {w : World} {base n : Nat} {e : TypeId} {v : Value} {xs : List Value} (h : w.ownsRow base e 1 v n xs) (hn : 0 < n) : ∃ g cap, v = .slice (some ⟨g, 0, none⟩) n cap ∧ n ≤ cap ∧ base ≤ g := by
  rcases h.2 with ⟨_, h0⟩ | ⟨g, cap, cur, rfl, hb, hg, hnc, _⟩
  · omega
  · exact ⟨g, cap, rfl, hnc, hb⟩

set_option maxRecDepth 8000 in
set_option maxHeartbeats 2000000 in
theorem next_any (v cv : Value) (q cs : List Nat) (P : Nat) (w : World) (hv : Sl w v (Fb q)) (hcv : Sl w cv (Fb cs)) (h1 : q.length ≤ 10000) (hcs : Likely cs) (hok : NextOk P cs q) :
    Calls Try.prog 37 #[v, .agg #[.float .f64 P, cv]] w fun e w' => ∃ v', e = .returned v' ∧ w'.ownsRow w.heap.size 33 1 v' q.length (Fb (nextV P cs q)) ∧ Below w.heap.size w w' := by
  obtain ⟨a, c, rfl, hc, hcm, _⟩ := Sl_partsF hv
  obtain ⟨ca, cc, rfl, hcc, hccm, _⟩ := Sl_partsF hcv
  obtain ⟨i0, hi, hz0, hz1, hz2⟩ := info_parts info33
  have HI := hid hi
  have HZ := hid hz2
  clear hi hz2
  obtain ⟨n, hn⟩ : ∃ n, q.length = n := ⟨_, rfl⟩
  obtain ⟨m, hm⟩ : ∃ m, cs.length = m := ⟨_, rfl⟩
  have HN := hid hn
  have HM := hid hm
  have HV := hid hv
  have HCV := hid hcv
  rw [hn] at HV h1 hc ⊢
  rw [hm] at HCV hcc ⊢
  have HOK := hid hok
  have HL := hid hcs
  have hm1 : m ≤ 256 := by rw [← hm]; exact hcs.2.1
  clear hn hm hok hv hcv hcs
  unfold maxLen at hcm hccm
  have hstf := store_run
  go_enter Try.func37, Try.ntmps37
  go_wp2_with (at_make; refine wpList_make_full _ rfl _ _ 27 rfl (w.heap.size + 1) 33 i0 (.float .f64 0) 1 Try.underlying27 HI.out hz0 hz1 .i64 .i64 _ _ n rfl rfl rfl rfl (by rw [HZ.out]; omega) (by unfold maxLen; omega) (by simp) ?_; intro w1 hown hgrow)
  have hs0 : (w.alloc (.cells #[.float .f64 P, .slice ca m cc] 48)).heap.size = w.heap.size + 1 := by simp
  have hb0 := (Below.refl w.heap.size w).alloc (Nat.le_refl _) (.cells #[.float .f64 P, .slice ca m cc] 48)
  have hc0 : (w.alloc (.cells #[.float .f64 P, .slice ca m cc] 48)).cell? ⟨w.heap.size, 0, none⟩ = some (.float .f64 P) := World.cell?_alloc_new w _ _ 0
  have hc1 : (w.alloc (.cells #[.float .f64 P, .slice ca m cc] 48)).cell? ⟨w.heap.size, 1, none⟩ = some (.slice ca m cc) := World.cell?_alloc_new w _ _ 1
  obtain ⟨w0, hw0⟩ : ∃ w0, w.alloc (.cells #[.float .f64 P, .slice ca m cc] 48) = w0 := ⟨_, rfl⟩
  rw [hw0] at hs0 hb0 hc0 hc1 hgrow hown
  rw [hs0] at hown
  have hb1 := (Below.refl (w.heap.size + 1) w0).grown hgrow (by omega) (fun k hk => absurd (show (none : Option Nat) = some k from hk) (by simp))
  rw [zerosF, ← HN.out, ← cur_zero P q cs, HN.out] at hown
  have HB0 := hid hb0
  have HC0 := hid hc0
  have HC1 := hid hc1
  have HS0 := hid hs0
  have HB1 := hid hb1
  have HO1 := hid hown
  clear hs0 hb0 hc0 hc1 hgrow hb1 hown hw0
  go_loopw [15] (fun i wr => ∃ x : Nat, x ≤ n ∧ i = .int .i64 x ∧ wr.ownsRow (w.heap.size + 1) 33 1 (.slice (some ⟨w.heap.size + 1, 0, none⟩) n n) n (Fb (cur P q cs x 0)) ∧ Below (w.heap.size + 1) w0 wr) (fun i _ => n - (intOf i).toNat)
  case atStart => exact ⟨0, by omega, rfl, HO1.out, HB1.out⟩
  case round =>
    obtain ⟨x, hx, rfl, hoR, hbR⟩ := hrel
    have HOR := hid hoR
    have HBR := hid hbR
    clear hoR hbR
    by_cases hlt : x < n
    · have hlt' : (x : Int) < (n : Int) := by omega
      have HVR := hid (Sl_below (Sl_below HV.out HB0.out (Nat.le_refl _)) HBR.out (by rw [HS0.out]; exact Nat.le_refl _))
      have HCR := hid (Sl_below (Sl_below HCV.out HB0.out (Nat.le_refl _)) HBR.out (by rw [HS0.out]; exact Nat.le_refl _))
      have hcr1 : wr.cell? ⟨w.heap.size, 1, none⟩ = some (.slice ca m cc) := by rw [HBR.out.cell (p := ⟨w.heap.size, 1, none⟩) (Nat.lt_succ_self _)]; exact HC1.out
      go_wp2_with fail
      refine (inf_any _).mono ?_
      rintro e w5 ⟨rfl, hw⟩
      obtain rfl := hw
      go_wp2_with fail
      go_loopw [7, 22] (fun b i wi => ∃ k : Nat, k ≤ m ∧ i = .int .i64 k ∧ b = .float .f64 (bestW P q x k) ∧ wi.ownsRow (w.heap.size + 1) 33 1 (.slice (some ⟨w.heap.size + 1, 0, none⟩) n n) n (Fb (cur P q cs x k)) ∧ Below (w.heap.size + 1) w0 wi) (fun _ i _ => m - (intOf i).toNat)
      case atStart => exact ⟨0, by omega, rfl, rfl, HOR.out, HBR.out⟩
      case round =>
        obtain ⟨k, hk, rfl, rfl, hoI, hbI⟩ := hrel
        have HOI := hid hoI
        have HBI := hid hbI
        clear hoI hbI hcr1
        have HVI := hid (Sl_below (Sl_below HV.out HB0.out (Nat.le_refl _)) HBI.out (by rw [HS0.out]; exact Nat.le_refl _))
        have HCI := hid (Sl_below (Sl_below HCV.out HB0.out (Nat.le_refl _)) HBI.out (by rw [HS0.out]; exact Nat.le_refl _))
        by_cases hlk : k < m
        · have hlk' : (k : Int) < (m : Int) := by omega
          have hci0 : wr.cell? ⟨w.heap.size, 0, none⟩ = some (.float .f64 P) := by rw [HBI.out.cell (p := ⟨w.heap.size, 0, none⟩) (Nat.lt_succ_self _)]; exact HC0.out
          obtain ⟨bc, oc, rfl, _, hcc⟩ := Sl_cellF (k := k) HCI.out (by rw [HM.out]; exact hlk)
          have hco : wr.cell? ⟨w.heap.size + 1, x, none⟩ = some (.float .f64 (outK P q cs x k)) := by
            rw [HOI.out.cellAt x (by omega), Fb_get (by rw [cur_len, HN.out]; omega), cur_at _ _ _ _ _ (by rw [HN.out]; exact hlt)]
          have hm2 := mul_run (HOK.out.mc x k (by rw [HM.out]; exact hlk))
          have ha2 := add_run (HOK.out.ac x k (by rw [HM.out]; exact hlk))
          have hfr : wr.frozen? ⟨w.heap.size + 1, x, none⟩ = false := HOI.out.frozenAt x
          have hst := HOI.out.stored x (.float .f64 (outK P q cs x (k + 1)))
          rw [Fb_set, cur_set] at hst
          have HST := hid hst
          clear hst
          by_cases hkx : k ≤ x
          · have hkx' : (k : Int) ≤ (x : Int) := by omega
            have hw1 : IntKind.i64.wrap ((x : Int) - (k : Int)) = ((x - k : Nat) : Int) := by rw [IntKind.wrap_i64]; omega
            have hlt3 : ((x - k : Nat) : Int) < (n : Int) := by omega
            obtain ⟨bv, ov, rfl, _, hcv⟩ := Sl_cellF (k := x - k) HVI.out (by rw [HN.out]; omega)
            have hm1 := mul_run (HOK.out.mu k (by omega))
            have ha1 := add_run (HOK.out.ad x k (by omega))
            have hcvt := conv_int_real (k : Int)
            have hmx : ∀ ts t w, (Builtin.max_ ts t #[.float .f64 (bestW P q x k), .float .f64 (vK P q x k)]).run Try.prog w = .ok (.float .f64 (bestW P q x (k + 1))) w := by
              cases k with
              | zero => exact fmax_ninf (HOK.out.vp x 0 (by omega))
              | succ j =>
                have e : bestW P q x (j + 1 + 1) = max (bestK P q x j) (vK P q x (j + 1)) := bestK_step (by omega)
                rw [e]
                exact fmax_pos (HOK.out.bp x j (by omega)) (HOK.out.vp x (j + 1) (by omega))
            have HBW := hid (show bestW P q x (k + 1) = bestK P q x k from rfl)
            rw [HBW.out] at hmx
            generalize bestW P q x k = B0 at hmx ⊢
            obtain ⟨B1, hB1⟩ : ∃ B1, bestK P q x k = B1 := ⟨_, rfl⟩
            rw [hB1] at hmx hm2 ha2
            have HB1e := hid hB1
            obtain ⟨S, hS⟩ : ∃ S, outK P q cs x (k + 1) = S := ⟨_, rfl⟩
            rw [hS] at ha2
            have HSe := hid hS
            rw [hS] at HST
            clear hB1 hS
            generalize vK P q x k = V at ha1 hmx
            generalize fmul (intW (k : Int)) P = M1 at hm1 ha1
            generalize intW (k : Int) = KW at hm1 hcvt
            generalize at0 q (x - k) = A at hcv ha1
            generalize fmul (at0 cs k) B1 = M2 at hm2 ha2
            generalize at0 cs k = C at hm2 hcc
            generalize outK P q cs x k = S0 at hco ha2
            go_wp2_with fail
            go_region
            go_wp2_with fail
            go_roundw
            case rel => exact ⟨k + 1, by omega, by go_num, by rw [HBW.out, HB1e.out], HST.out.1.drew, (HBI.out.setCell (Nat.le_refl _) _).drew⟩
            case measure => simp [intOf]; omega
          · have hkx' : (x : Int) < (k : Int) := by omega
            have hbk : bestW P q x k = bestK P q x k := by
              obtain ⟨j, rfl⟩ : ∃ j, k = j + 1 := ⟨k - 1, by omega⟩
              exact (bestK_stay hkx).symm
            have HBW := hid (show bestW P q x (k + 1) = bestK P q x k from rfl)
            rw [hbk]
            clear hbk
            obtain ⟨B1, hB1⟩ : ∃ B1, bestK P q x k = B1 := ⟨_, rfl⟩
            rw [hB1] at hm2 ha2 ⊢
            have HB1e := hid hB1
            obtain ⟨S, hS⟩ : ∃ S, outK P q cs x (k + 1) = S := ⟨_, rfl⟩
            rw [hS] at ha2
            have HSe := hid hS
            rw [hS] at HST
            clear hB1 hS
            generalize fmul (at0 cs k) B1 = M2 at hm2 ha2
            generalize at0 cs k = C at hm2 hcc
            generalize outK P q cs x k = S0 at hco ha2
            go_wp2_with fail
            go_roundw
            case rel => exact ⟨k + 1, by omega, by go_num, by rw [HBW.out, HB1e.out], HST.out.1, HBI.out.setCell (Nat.le_refl _) _⟩
            case measure => simp [intOf]; omega
        · obtain rfl : k = m := by omega
          have hfin := HOI.out
          rw [← HM.out, cur_next] at hfin
          have HFIN := hid hfin
          clear hfin
          generalize bestW P q x k = B0
          go_wp2_with fail
          go_roundw
          case rel => exact ⟨x + 1, by omega, by go_num, HFIN.out, HBI.out⟩
          case measure => simp [intOf]; omega
    · obtain rfl : x = n := by omega
      have hfin := HOR.out
      rw [← HN.out, cur_all, HN.out] at hfin
      have HFIN := hid (own_mono hfin (Nat.le_succ w.heap.size))
      clear hfin
      go_wp2_with fail
      go_ret
      exact ⟨_, rfl, HFIN.out, HB0.out.trans (HBR.out.mono (Nat.le_succ _))⟩
end Go.Proofs.Ytnaogcpcaabbhaa
