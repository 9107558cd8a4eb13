/- Rows of bytes: equality, copies. -/
import Derived.Test.YtffkegfhnlkonaaDoorSums
import Derived.Deep.LoopGhost
namespace Go.Proofs.YtffkegfhnlkonaaDoor
open Go.RowKit CrcPlain

theorem same_any (xs ys : List (BitVec 8)) (u v : Value) (w : World) (hu : Sl w u (Lb xs)) (hv : Sl w v (Lb ys)) :
    Calls Tryd.prog 22 #[u, v] w fun e w' => e = .returned (.bool (decide (xs = ys))) ∧ ∃ m, w' = w.drewN m := by
  obtain ⟨a, c, rfl, hc, hcm, h1⟩ := hu
  obtain ⟨b, d, rfl, hd, hdm, h2⟩ := hv
  rw [Lb_len] at hc hd ⊢
  rw [Lb_len]
  unfold maxLen at hcm hdm
  by_cases hne : xs.length = ys.length
  · have hEq : ((xs.length : Int) != (ys.length : Int)) = false := by rw [hne]; simp
    have hN := hid hne
    rw [← hne] at hEq hd
    have e : Value.slice b ys.length d = Value.slice b xs.length d := by rw [hne]
    rw [e]
    clear hne e
    go_enter Tryd.func22, Tryd.ntmps22
    go_wp2
    go_loopw [5] (fun i wr => ∃ k m : Nat, k ≤ xs.length ∧ i = .int .i64 k ∧ wr = w.drewN m ∧ xs.take k = ys.take k) (fun i _ => xs.length - (intOf i).toNat)
    case atStart => exact ⟨0, 0, Nat.zero_le _, rfl, rfl, rfl⟩
    case round =>
      obtain ⟨k, m, hk, rfl, rfl, hEqk⟩ := hrel
      have HE := hid hEqk
      clear hEqk
      by_cases hlt : k < xs.length
      · have hlt2 : k < ys.length := by rw [← hN.out]; exact hlt
        rcases h1 with ⟨h0, _⟩ | ⟨g1, o1, rfl, hg1, hc1⟩
        · simp [Lb] at h0; subst h0; simp at hlt
        rcases h2 with ⟨h0, _⟩ | ⟨g2, o2, rfl, hg2, hc2⟩
        · simp [Lb] at h0; subst h0; simp at hlt2
        have c1 : w.cell? ⟨g1, o1 + k, none⟩ = some (.int .u8 (K xs[k])) := hc1 k _ (Lb_get hlt)
        have c2 : w.cell? ⟨g2, o2 + k, none⟩ = some (.int .u8 (K ys[k])) := hc2 k _ (Lb_get hlt2)
        clear hc1 hc2
        have hi : (k : Int) < (xs.length : Int) := by omega
        go_wp2
        go_quiet (fail)
        go_wp2
        · have hx : (K xs[k] != K ys[k]) = true := by assumption
          go_ret
          refine ⟨?_, m + nq, World.drewN_drewN _ _ _⟩
          have : ¬ xs = ys := fun h => by subst h; simp at hx
          rw [decide_eq_false this]; rfl
        · have hx : (K xs[k] != K ys[k]) = false := by assumption
          have hx' : xs[k] = ys[k] := by
            rw [bne_eq_false_iff_eq] at hx; exact K_inj hx
          go_roundw
          case rel => exact ⟨k + 1, m + nq, by omega, by go_num, rfl, by rw [List.take_succ_eq_append_getElem hlt, List.take_succ_eq_append_getElem hlt2, HE.out, hx']⟩
          case measure => simp [intOf]; omega
      · go_wp2
        go_ret
        refine ⟨?_, m, rfl⟩
        have h3 := HE.out
        rw [List.take_of_length_le (by omega), List.take_of_length_le (by have := hN.out; omega)] at h3
        rw [decide_eq_true h3]; rfl
  · have hEq : ((xs.length : Int) != (ys.length : Int)) = true := by simp; omega
    have hd' : decide (xs = ys) = false := by simp; intro h; exact hne (by rw [h])
    have HD := hid hd'
    clear hd'
    go_enter Tryd.func22, Tryd.ntmps22
    go_wp2
    go_ret
    exact ⟨by rw [HD.out]; rfl, 0, rfl⟩


theorem info5 : (Tryd.prog.info? 5).map (fun i => (i.zero, i.size, i.bytes)) = some (some (.int .u8 0), 1, 1) := by kernel_rfl

theorem addr_add (b off j : Nat) : (⟨b, off, none⟩ : Addr).add j = ⟨b, off + j, none⟩ := by
  unfold Addr.add; split <;> simp_all

theorem Lb_one (l : List (BitVec 8)) : ∀ u ∈ Lb l, u.oneCell' = true := by
  intro u hu
  simp only [Lb, List.mem_map] at hu
  obtain ⟨b, _, rfl⟩ := hu
  rfl

theorem copy_any (v : Value) (l : List (BitVec 8)) (w : World) (hv : Sl w v (Lb l)) (hl : l.length ≤ 140737488355328) :
    Calls Tryd.prog 25 #[v] w fun e w' => ∃ v', e = .returned v' ∧ w'.ownsRow w.heap.size 5 1 v' l.length (Lb l) ∧ Below w.heap.size w w' := by
  obtain ⟨a, c, rfl, hc, hcm, h1⟩ := hv
  rw [Lb_len] at hc ⊢
  unfold maxLen at hcm
  obtain ⟨i0, hi, hz0, hz1, hz2⟩ := info_parts info5
  have HL := hid hl
  clear hl
  rcases h1 with ⟨h0, rfl⟩ | ⟨b, off, rfl, hb, hcell⟩
  · have hl0 : l = [] := by simpa [Lb] using h0
    subst hl0
    cases a with
    | none =>
      go_enter Tryd.func25, Tryd.ntmps25
      go_wp2
      go_ret
      exact ⟨_, rfl, World.ownsRow_nil _ _ _ _, Below.refl _ _⟩
    | some x =>
      go_enter Tryd.func25, Tryd.ntmps25
      go_wp2_with (at_builtin; refine wpList_append_own _ rfl _ _ 23 rfl w.heap.size 5 i0 (.int .u8 0) 1 1 Tryd.underlying23 hi hz0 hz1 hz2 rfl (by decide) _ 0 [] rfl (World.ownsRow_nil _ _ _ _) x 0 0 [] rfl rfl (fun j u hj => by simp at hj) (by simp) (by unfold maxLen; omega) (by omega) (Nat.le_refl _) ?_; intro v' w1 hown hgrow _)
      go_ret
      refine ⟨_, rfl, by simpa [Lb] using hown, (Below.refl _ _).grown hgrow (Nat.le_refl _) (fun k hk => ?_)⟩
      exact absurd (show (none : Option Nat) = some k from hk) (by simp)
  · have HC := hid hcell
    clear hcell
    go_enter Tryd.func25, Tryd.ntmps25
    go_wp2_with (at_builtin; refine wpList_append_own _ rfl _ _ 23 rfl w.heap.size 5 i0 (.int .u8 0) 1 1 Tryd.underlying23 hi hz0 hz1 hz2 rfl (by decide) _ 0 [] rfl (World.ownsRow_nil _ _ _ _) ⟨b, off, none⟩ l.length c (Lb l) rfl (by rw [Lb_len]; omega) (fun j u hj => by rw [addr_add]; exact HC.out j u hj) (Lb_one l) (by have := HL.out; unfold maxLen; omega) (by have := HL.out; omega) (Nat.le_refl _) ?_; intro v' w1 hown hgrow _)
    go_ret
    refine ⟨_, rfl, by simpa using hown, (Below.refl _ _).grown hgrow (Nat.le_refl _) (fun k hk => ?_)⟩
    exact absurd (show (none : Option Nat) = some k from hk) (by simp)
end Go.Proofs.YtffkegfhnlkonaaDoor
