/- The document's Next, Values, Limits, Bid. -/
import Derived.Test.YtnaogcpcaabbhaaRefCheck
import Derived.Test.YtnaogcpcaabbhaaLimits
import Derived.Maps.AppendAt
namespace Go.Proofs.Ytnaogcpcaabbhaa
open Go.RowKit FloatPlain

def firstV (P : Nat) (q cs : List Nat) (x : Nat) : List Nat := (List.range x).map fun i => outK P q cs i cs.length
theorem firstV_succ (P : Nat) (q cs : List Nat) (x : Nat) : firstV P q cs (x + 1) = firstV P q cs x ++ [outK P q cs x cs.length] := by simp [firstV, List.range_succ]
theorem firstV_all (P : Nat) (q cs : List Nat) : firstV P q cs q.length = nextV P cs q := rfl

theorem gt_pos {a b : Nat} (ha : Pos a) (hb : Pos b) : (FloatKind.f64.format.order a b == some .gt) = decide (b < a) := by
  show (Ieee.double.order a b == some .gt) = decide (b < a)
  rw [cmp_gt ha.fin hb.fin, decide_eq_decide]
  exact num_pos_lt hb ha

theorem int0 : intW ((0 : Nat) : Int) = 0 := by kernel_rfl

set_option maxRecDepth 8000 in
set_option maxHeartbeats 4000000 in
theorem refNext_any (v cv : Value) (q cs : List Nat) (P : Nat) (w : World) (hv : Sl w v (Fb q)) (hcv : Sl w cv (Fb cs)) (h1 : q.length ≤ 10000) (hcs : Likely cs) (hok : NextOk P cs q) :
    Calls Try.prog 42 #[v, .agg #[.float .f64 P, cv]] w fun e w' => ∃ v', e = .returned v' ∧ w'.ownsRow w.heap.size 33 1 v' q.length (Fb (nextV P cs q)) ∧ Below w.heap.size w w' := by
  obtain ⟨a, c, rfl, hc, hcm, _⟩ := Sl_partsF hv
  obtain ⟨ca, cc, rfl, hcc, hccm, _⟩ := Sl_partsF hcv
  obtain ⟨i0, hi, hz0, hz1, hz2⟩ := info_parts info33
  have HI := hid hi
  have HZ := hid hz2
  clear hi hz2
  obtain ⟨n, hn⟩ : ∃ n, q.length = n := ⟨_, rfl⟩
  obtain ⟨m, hm⟩ : ∃ m, cs.length = m := ⟨_, rfl⟩
  have HN := hid hn
  have HM := hid hm
  have HV := hid hv
  have HCV := hid hcv
  rw [hn] at HV h1 hc ⊢
  rw [hm] at HCV hcc ⊢
  have HOK := hid hok
  have HL := hid hcs
  have hm1 : m ≤ 256 := by rw [← hm]; exact hcs.2.1
  have hm0 : 1 ≤ m := by rw [← hm]; exact hcs.1
  have hm0' : (0 : Int) < (m : Int) := by omega
  clear hn hm hok hv hcv hcs
  unfold maxLen at hcm hccm
  go_enter Try.func42, Try.ntmps42
  go_wp2_with fail
  have hs0 : (w.alloc (.cells #[.float .f64 P, .slice ca m cc] 48)).heap.size = w.heap.size + 1 := by simp
  have hb0 := (Below.refl w.heap.size w).alloc (Nat.le_refl _) (.cells #[.float .f64 P, .slice ca m cc] 48)
  have hc0 : (w.alloc (.cells #[.float .f64 P, .slice ca m cc] 48)).cell? ⟨w.heap.size, 0, none⟩ = some (.float .f64 P) := World.cell?_alloc_new w _ _ 0
  have hc1 : (w.alloc (.cells #[.float .f64 P, .slice ca m cc] 48)).cell? ⟨w.heap.size, 1, none⟩ = some (.slice ca m cc) := World.cell?_alloc_new w _ _ 1
  obtain ⟨w0, hw0⟩ : ∃ w0, w.alloc (.cells #[.float .f64 P, .slice ca m cc] 48) = w0 := ⟨_, rfl⟩
  rw [hw0] at hs0 hb0 hc0 hc1 ⊢
  have HB0 := hid hb0
  have HC0 := hid hc0
  have HC1 := hid hc1
  have HS0 := hid hs0
  clear hs0 hb0 hc0 hc1 hw0
  go_loopw [5, 6] (fun o i wr => ∃ x : Nat, x ≤ n ∧ i = .int .i64 x ∧ wr.ownsRow (w.heap.size + 1) 33 1 o x (Fb (firstV P q cs x)) ∧ Below (w.heap.size + 1) w0 wr) (fun _ i _ => n - (intOf i).toNat)
  case atStart => exact ⟨0, by omega, rfl, World.ownsRow_nil _ _ _ _, Below.refl _ _⟩
  case round =>
    obtain ⟨x, hx, rfl, hoR, hbR⟩ := hrel
    have HOR := hid hoR
    have HBR := hid hbR
    clear hoR hbR
    by_cases hlt : x < n
    · have hlt' : (x : Int) < (n : Int) := by omega
      have HVR := hid (Sl_below (Sl_below HV.out HB0.out (Nat.le_refl _)) HBR.out (by rw [HS0.out]; exact Nat.le_refl _))
      have HCR := hid (Sl_below (Sl_below HCV.out HB0.out (Nat.le_refl _)) HBR.out (by rw [HS0.out]; exact Nat.le_refl _))
      have hcr0 : wr.cell? ⟨w.heap.size, 0, none⟩ = some (.float .f64 P) := by rw [HBR.out.cell (p := ⟨w.heap.size, 0, none⟩) (Nat.lt_succ_self _)]; exact HC0.out
      have hcr1 : wr.cell? ⟨w.heap.size, 1, none⟩ = some (.slice ca m cc) := by rw [HBR.out.cell (p := ⟨w.heap.size, 1, none⟩) (Nat.lt_succ_self _)]; exact HC1.out
      obtain ⟨bv, ov, rfl, _, hcv⟩ := Sl_cellF (k := x) HVR.out (by rw [HN.out]; exact hlt)
      obtain ⟨bc, oc, rfl, _, hcc0⟩ := Sl_cellF (k := 0) HCR.out (by rw [HM.out]; omega)
      have e1 := HOK.out.mu 0 (by omega)
      have e2 := HOK.out.ad x 0 (by omega)
      rw [int0] at e1 e2
      rw [Nat.sub_zero] at e2
      have hm1 := mul_run e1
      have ha1 := add_run e2
      have hm2 := mul_run (HOK.out.mc x 0 (by rw [HM.out]; omega))
      have ha2 := add_run (HOK.out.ac x 0 (by rw [HM.out]; omega))
      have eb : bestK P q x 0 = vK P q x 0 := rfl
      have eo : outK P q cs x 0 = 0 := rfl
      rw [eb] at hm2 ha2
      rw [eo] at ha2
      clear eb eo e1 e2
      rw [Nat.add_zero] at hcc0
      obtain ⟨S1, hS1⟩ : ∃ S, outK P q cs x (0 + 1) = S := ⟨_, rfl⟩
      rw [hS1] at ha2
      have HS1 := hid hS1
      obtain ⟨V0, hV0⟩ : ∃ V, vK P q x 0 = V := ⟨_, rfl⟩
      rw [hV0] at ha1 hm2 ha2
      have HV0 := hid hV0
      clear hS1 hV0
      generalize fmul (at0 cs 0) V0 = M2 at hm2 ha2
      generalize at0 cs 0 = C0 at hm2 hcc0
      generalize fmul 0 P = M1 at hm1 ha1
      generalize at0 q x = A at hcv ha1
      go_wp2_with fail
      go_big_quiet (fail)
      go_wp2_with fail
      have HB8 := hid (below_drewN HBR.out nq)
      have HO8 := hid (own_below HOR.out (below_drewN (Below.refl wr.heap.size wr) nq) (Nat.le_refl _))
      obtain ⟨w8, hw8⟩ : ∃ w8, wr.drewN nq = w8 := ⟨_, rfl⟩
      rw [hw8] at HB8 HO8 ⊢
      clear hw8 hcr0 hcr1 hcv hcc0 hm1 ha1 hm2 ha2
      have hk1 : ((1 : Nat) : Int) = 1 := rfl
      go_loopw [7, 8, 9] (fun b s i wi => ∃ k : Nat, k + 1 ≤ m ∧ i = .int .i64 ((k + 1 : Nat) : Int) ∧ b = .float .f64 (bestK P q x k) ∧ s = .float .f64 (outK P q cs x (k + 1)) ∧ Below w8.heap.size w8 wi) (fun _ _ i _ => m - (intOf i).toNat)
      case atStart => exact ⟨0, by omega, rfl, by rw [← HV0.out]; rfl, by rw [← HS1.out], Below.refl _ _⟩
      case round =>
        obtain ⟨k, hk, rfl, rfl, rfl, hbI⟩ := hrel
        have HBI := hid hbI
        clear hbI
        have HBJ := hid (HB8.out.trans (HBI.out.mono (Nat.le_trans (by rw [HS0.out]; exact Nat.le_refl _) HB8.out.size)))
        have hci0 : wr.cell? ⟨w.heap.size, 0, none⟩ = some (.float .f64 P) := by rw [HBJ.out.cell (p := ⟨w.heap.size, 0, none⟩) (Nat.lt_succ_self _)]; exact HC0.out
        have hci1 : wr.cell? ⟨w.heap.size, 1, none⟩ = some (.slice (some ⟨bc, oc, none⟩) m cc) := by rw [HBJ.out.cell (p := ⟨w.heap.size, 1, none⟩) (Nat.lt_succ_self _)]; exact HC1.out
        have HVI := hid (Sl_below (Sl_below HV.out HB0.out (Nat.le_refl _)) HBJ.out (by rw [HS0.out]; exact Nat.le_refl _))
        have HCI := hid (Sl_below (Sl_below HCV.out HB0.out (Nat.le_refl _)) HBJ.out (by rw [HS0.out]; exact Nat.le_refl _))
        by_cases hlk : k + 1 < m
        · obtain ⟨k1, hk1e⟩ : ∃ k1, k + 1 = k1 := ⟨_, rfl⟩
          have HK1 := hid hk1e
          have hlk' : (k1 : Int) < (m : Int) := by omega
          have hk0' : (0 : Int) ≤ (k1 : Int) := by omega
          have hwk : IntKind.i64.wrap ((k1 : Int) + 1) = ((k1 + 1 : Nat) : Int) := by rw [IntKind.wrap_i64]; omega
          obtain ⟨bc', oc', ec, _, hcc⟩ := Sl_cellF (k := k1) HCI.out (by rw [HM.out]; omega)
          injection ec with ec
          injection ec with ec1 ec2
          subst ec1 ec2
          have hm2 := mul_run (HOK.out.mc x k1 (by rw [HM.out]; omega))
          have ha2 := add_run (HOK.out.ac x k1 (by rw [HM.out]; omega))
          by_cases hkx : k1 ≤ x
          · have hkx' : (k1 : Int) ≤ (x : Int) := by omega
            have hw1 : IntKind.i64.wrap ((x : Int) - (k1 : Int)) = ((x - k1 : Nat) : Int) := by rw [IntKind.wrap_i64]; omega
            have hlt3 : ((x - k1 : Nat) : Int) < (n : Int) := by omega
            obtain ⟨bv', ov', ev, _, hcv⟩ := Sl_cellF (k := x - k1) HVI.out (by rw [HN.out]; omega)
            injection ev with ev
            injection ev with ev1 ev2
            subst ev1 ev2
            have hm1 := mul_run (HOK.out.mu k1 (by omega))
            have ha1 := add_run (HOK.out.ad x k1 (by omega))
            have hcvt := conv_int_real (k1 : Int)
            have hgt := gt_pos (HOK.out.vp x k1 (by omega)) (HOK.out.bp x k (by omega))
            have hbk : bestK P q x k1 = max (bestK P q x k) (vK P q x k1) := by rw [← hk1e]; exact bestK_step (by omega)
            rw [hk1e]
            obtain ⟨S, hS⟩ : ∃ S, outK P q cs x (k1 + 1) = S := ⟨_, rfl⟩
            rw [hS] at ha2
            have HSe := hid hS
            obtain ⟨B1, hB1⟩ : ∃ B1, bestK P q x k1 = B1 := ⟨_, rfl⟩
            rw [hB1] at hm2 ha2 hbk
            have HB1e := hid hB1
            clear hS hB1 hk1e
            generalize outK P q cs x k1 = S0 at ha2 ⊢
            generalize vK P q x k1 = V at ha1 hgt hbk
            generalize bestK P q x k = B0 at hgt hbk ⊢
            generalize fmul (intW (k1 : Int)) P = M1 at hm1 ha1
            generalize intW (k1 : Int) = KW at hm1 hcvt
            generalize at0 q (x - k1) = A at hcv ha1
            generalize fmul (at0 cs k1) B1 = M2 at hm2 ha2
            generalize at0 cs k1 = C at hm2 hcc
            by_cases hgv : B0 < V
            · have hbe : B1 = V := by omega
              rw [decide_eq_true hgv] at hgt
              subst hbe
              clear hgv hbk
              go_wp2_with fail
              go_big_quiet (fail)
              have hci1' : (wr.drewN nq).cell? ⟨w.heap.size, 1, none⟩ = some (.slice (some ⟨bc, oc, none⟩) m cc) := hci1
              have hcc' : (wr.drewN nq).cell? ⟨bc, oc + k1, none⟩ = some (.float .f64 C) := hcc
              go_wp2_with fail
              go_roundw
              case rel => exact ⟨k1, by omega, by go_num, by rw [HB1e.out], by rw [HSe.out], below_drewN HBI.out _⟩
              case measure => simp [intOf]; omega
            · have hbe : B1 = B0 := by omega
              rw [decide_eq_false hgv] at hgt
              subst hbe
              clear hgv hbk
              go_wp2_with fail
              go_big_quiet (fail)
              have hci1' : (wr.drewN nq).cell? ⟨w.heap.size, 1, none⟩ = some (.slice (some ⟨bc, oc, none⟩) m cc) := hci1
              have hcc' : (wr.drewN nq).cell? ⟨bc, oc + k1, none⟩ = some (.float .f64 C) := hcc
              go_wp2_with fail
              go_roundw
              case rel => exact ⟨k1, by omega, by go_num, by rw [HB1e.out], by rw [HSe.out], below_drewN HBI.out _⟩
              case measure => simp [intOf]; omega
          · have hkx' : (x : Int) < (k1 : Int) := by omega
            have hbk : bestK P q x k1 = bestK P q x k := by rw [← hk1e]; exact bestK_stay (by omega)
            rw [hk1e]
            obtain ⟨S, hS⟩ : ∃ S, outK P q cs x (k1 + 1) = S := ⟨_, rfl⟩
            rw [hS] at ha2
            have HSe := hid hS
            rw [hbk] at hm2 ha2
            have HBK := hid hbk
            clear hS hk1e hbk
            generalize outK P q cs x k1 = S0 at ha2 ⊢
            obtain ⟨B0, hB0⟩ : ∃ B0, bestK P q x k = B0 := ⟨_, rfl⟩
            rw [hB0] at hm2 ha2 HBK ⊢
            clear hB0
            generalize fmul (at0 cs k1) B0 = M2 at hm2 ha2
            generalize at0 cs k1 = C at hm2 hcc
            go_wp2_with fail
            go_roundw
            case rel => exact ⟨k1, by omega, by go_num, by rw [HBK.out], by rw [HSe.out], HBI.out⟩
            case measure => simp [intOf]; omega
        · obtain ⟨k1, hk1e⟩ : ∃ k1, k + 1 = k1 := ⟨_, rfl⟩
          rw [hk1e]
          obtain rfl : k1 = m := by omega
          have hfs := firstV_succ P q cs x
          rw [HM.out] at hfs
          have HFS := hid hfs
          have hoI := own_below HO8.out HBI.out (Nat.le_refl _)
          have HOI := hid hoI
          clear hfs hoI hk1e
          generalize bestK P q x k = B0
          obtain ⟨S, hS⟩ : ∃ S, outK P q cs x k1 = S := ⟨_, rfl⟩
          rw [hS] at HFS ⊢
          clear hS
          go_wp2_with (at_builtin; refine wpList_append_own_at _ rfl _ _ 27 rfl (w.heap.size + 1) 33 i0 (.float .f64 0) 1 8 Try.underlying27 HI.out hz0 hz1 HZ.out rfl (by decide) _ x (Fb (firstV P q cs x)) rfl (HOI.out.alloc _) ⟨wr.heap.size, 0, none⟩ 1 1 [.float .f64 S] rfl rfl (cell_one_new _ _ _) (by intro u hu; rw [List.mem_singleton] at hu; subst hu; rfl) (by unfold maxLen; omega) (by omega) (by have := HBJ.out.size; have := HS0.out; simp; omega) ?_; intro v4 w4 hown hgrow _ hat)
          have hb4 := (HBJ.out.alloc (by have := HBJ.out.size; have := HS0.out; omega) (.cells #[.float .f64 S] 33)).grown hgrow (by have := HBJ.out.size; have := HS0.out; simp; omega) (fun q hq => (HOI.out.lt q hq).1)
          have HB4 := hid hb4
          have HO4 := hid hown
          clear hb4 hown hgrow hat
          go_roundw
          case rel => exact ⟨x + 1, by omega, by go_num, by rw [HFS.out, Fb_app]; exact HO4.out, HB4.out⟩
          case measure => simp [intOf]; omega
    · obtain rfl : x = n := by omega
      have hfin := HOR.out
      rw [← HN.out, firstV_all, HN.out] at hfin
      have HFIN := hid (own_mono hfin (Nat.le_succ w.heap.size))
      clear hfin
      go_wp2_with fail
      go_ret
      exact ⟨_, rfl, HFIN.out, HB0.out.trans (HBR.out.mono (Nat.le_succ _))⟩
end Go.Proofs.Ytnaogcpcaabbhaa
