/- Patching: the walk of the program's, and what it puts in. -/
import Derived.Test.YtffkegfhnlkonaaDoorSlices
namespace Go.Proofs.YtffkegfhnlkonaaDoor
open Go.RowKit CrcPlain

/-- the i-th byte of a number, the lowest first -/
def b8 (x : BitVec 32) (i : Nat) : BitVec 8 := (x >>> (8 * i)).setWidth 8
theorem wd_b8 (x : BitVec 32) (i : Nat) : wd (b8 x i) = byteAt x i := by
  unfold wd b8 byteAt
  apply BitVec.eq_of_getLsbD_eq
  intro j hj
  rw [BitVec.getLsbD_setWidth, BitVec.getLsbD_setWidth, BitVec.getLsbD_and, mask_bit]
  by_cases h : j < 8 <;> simp [h, hj]

theorem K_b8 (x : BitVec 32) (i : Nat) : IntKind.u8.wrap (J x / (2 : Int) ^ (8 * i)) = K (b8 x i) := by
  rw [J_shr]
  unfold J K b8
  rw [IntKind.wrap_u8', BitVec.toNat_setWidth]
  omega

theorem unstep_test (r : BitVec 32) : (J r / (2147483648 : Int) == 1) = r.getLsbD 31 := by
  have h := J_shr r 31
  rw [show ((2 : Int) ^ 31) = 2147483648 by decide] at h
  rw [h]
  have : (J (r >>> 31) == 1) = decide (r >>> 31 = 1#32) := by
    rw [← one32, Bool.eq_iff_iff, beq_iff_eq, decide_eq_true_iff]
    exact ⟨J_inj, fun h => by rw [h]⟩
  rw [this]
  cases hb : r.getLsbD 31
  · rw [decide_eq_false_iff_not]
    intro e
    have h2 : (r >>> 31).getLsbD 0 = (1#32).getLsbD 0 := by rw [e]
    rw [BitVec.getLsbD_ushiftRight, show 31 + 0 = 31 from rfl, hb] at h2
    exact absurd h2 (by decide)
  · rw [decide_eq_true_iff]
    apply BitVec.eq_of_getLsbD_eq
    intro i hi
    rw [BitVec.getLsbD_ushiftRight, BitVec.getLsbD_one]
    by_cases e : i = 0
    · subst e; simp [hb]
    · rw [BitVec.getLsbD_of_ge _ _ (by omega)]; simp [e]

theorem unstep_yes (r : BitVec 32) (h : r.getLsbD 31 = true) : bits .or .u32 (IntKind.u32.wrap (bits .xor .u32 (J r) 3988292384 * 2)) 1 = J (unstep r) := by
  rw [← poly_is, J_xor]
  have : IntKind.u32.wrap (J (r ^^^ P) * 2) = J ((r ^^^ P) <<< 1) := J_shl _ 1
  rw [this, ← one32, J_or]
  unfold unstep; rw [if_pos h]

theorem unstep_no (r : BitVec 32) (h : r.getLsbD 31 = false) : IntKind.u32.wrap (J r * 2) = J (unstep r) := by
  have : IntKind.u32.wrap (J r * 2) = J (r <<< 1) := J_shl _ 1
  rw [this]
  unfold unstep; rw [if_neg (by rw [h]; simp)]

/-- what stands behind the bytes from the place p on, gone back through -/
def backTo (want : BitVec 32) (l : List (BitVec 8)) (at_ p : Nat) : BitVec 32 :=
  if at_ + 4 ≤ p then unrun (~~~ want) (ws (l.drop p)) else unsteps (8 * (at_ + 4 - p)) (unrun (~~~ want) (ws (l.drop (at_ + 4))))

theorem backTo_far (want : BitVec 32) (l : List (BitVec 8)) (at_ p : Nat) (h : at_ + 4 ≤ p) (hp : p < l.length) : unsteps 8 (backTo want l at_ (p + 1)) ^^^ wd l[p] = backTo want l at_ p := by
  unfold backTo
  rw [if_pos (by omega), if_pos h]
  rw [List.drop_eq_getElem_cons hp]
  rfl

theorem backTo_near (want : BitVec 32) (l : List (BitVec 8)) (at_ p : Nat) (h : ¬ at_ + 4 ≤ p) : unsteps 8 (backTo want l at_ (p + 1)) = backTo want l at_ p := by
  unfold backTo
  rw [if_neg h]
  by_cases e : at_ + 4 ≤ p + 1
  · have : p = at_ + 3 := by omega
    subst this
    rw [if_pos e, show 8 * (at_ + 4 - (at_ + 3)) = 8 by omega]
  · rw [if_neg e, show 8 * (at_ + 4 - p) = 8 * (at_ + 4 - (p + 1)) + 8 by omega, unsteps_add]

theorem backTo_start (want : BitVec 32) (l : List (BitVec 8)) (at_ : Nat) (h : at_ + 4 ≤ l.length) : backTo want l at_ l.length = ~~~ want := by
  unfold backTo
  rw [if_pos h, List.drop_of_length_le (Nat.le_refl _)]
  rfl

/-- the number that Patch puts in -/
def patchWord (want : BitVec 32) (l : List (BitVec 8)) (at_ : Nat) : BitVec 32 := backTo want l at_ at_ ^^^ run (~~~ 0#32) (ws (l.take at_))

/-- the row behind k of the four bytes -/
def patchTo (x : BitVec 32) (l : List (BitVec 8)) (at_ k : Nat) : List (BitVec 8) := l.take at_ ++ ((List.range k).map (b8 x)) ++ l.drop (at_ + k)

theorem patchTo_zero (x : BitVec 32) (l : List (BitVec 8)) (at_ : Nat) : patchTo x l at_ 0 = l := by simp [patchTo]

theorem patchTo_len (x : BitVec 32) (l : List (BitVec 8)) (at_ k : Nat) (h : at_ + k ≤ l.length) : (patchTo x l at_ k).length = l.length := by
  simp [patchTo]; omega

theorem patchTo_next (x : BitVec 32) (l : List (BitVec 8)) (at_ k : Nat) (h : at_ + k < l.length) : (patchTo x l at_ k).set (at_ + k) (b8 x k) = patchTo x l at_ (k + 1) := by
  unfold patchTo
  have h1 : (l.take at_ ++ (List.range k).map (b8 x)).length = at_ + k := by simp; omega
  rw [List.set_append_right _ _ (by omega), h1, Nat.sub_self, List.range_succ, List.map_append, List.drop_eq_getElem_cons h]
  simp only [List.set_cons_zero, List.map_cons, List.map_nil, List.append_assoc, List.cons_append, List.nil_append]
  rfl

theorem Lb_set (l : List (BitVec 8)) (k : Nat) (b : BitVec 8) : (Lb l).set k (.int .u8 (K b)) = Lb (l.set k b) := by
  simp [Lb, List.map_set]

theorem Tab_below {w w' : World} {B : Nat} (h : Tab w) (hb : Below B w w') (hB : 0 < B) : Tab w' := by
  intro i hi
  rw [hb.cell (p := ⟨0, i, none⟩) hB]; exact h i hi

theorem patch_bad (v : Value) (l : List (BitVec 8)) (z : Int) (want : Int) (w : World) (hv : Sl w v (Lb l)) (h : z < 0 ∨ (l.length : Int) - 4 < z) :
    Calls Tryd.prog 20 #[v, .int .i64 z, .int .u32 want] w fun e w' => e = .returned (.tuple #[.slice none 0 0, .int .i64 2]) ∧ w = w' := by
  obtain ⟨a, c, rfl, hc, hcm, _⟩ := hv
  rw [Lb_len] at hc ⊢
  unfold maxLen at hcm
  rcases h with h | h
  · go_enter Tryd.func20, Tryd.ntmps20
    go_wp2
    go_ret2
    exact ⟨rfl, rfl⟩
  · by_cases h0 : z < 0
    · go_enter Tryd.func20, Tryd.ntmps20
      go_wp2
      go_ret2
      exact ⟨rfl, rfl⟩
    · go_enter Tryd.func20, Tryd.ntmps20
      go_wp2
      go_ret2
      exact ⟨rfl, rfl⟩

set_option maxHeartbeats 1000000 in
theorem patch_any (v : Value) (l : List (BitVec 8)) (p : Nat) (want : BitVec 32) (w : World) (hv : Sl w v (Lb l)) (hT : Tab w) (hl : l.length ≤ 140737488355328) (hp : p + 4 ≤ l.length) :
    Calls Tryd.prog 20 #[v, .int .i64 p, .int .u32 (J want)] w fun e w' => ∃ v', e = .returned (.tuple #[v', .int .i64 0]) ∧ w'.ownsRow w.heap.size 5 1 v' l.length (Lb (patchTo (patchWord want l p) l p 4)) ∧ Below w.heap.size w w' := by
  have HV := hid hv
  have HT := hid hT
  obtain ⟨a, c, rfl, hc, hcm, h1⟩ := hv
  rw [Lb_len] at hc ⊢
  have hTs := hT.size
  unfold maxLen at hcm
  obtain ⟨i0, hi, hz0, hz1, hz2⟩ := info_parts info5
  have HL := hid hl
  clear hl hT
  rcases h1 with ⟨h0, _⟩ | ⟨b, off, rfl, hb, hcell⟩
  · have hl0 : l = [] := by simpa [Lb] using h0
    subst hl0
    simp at hp
  · have HC := hid hcell
    clear hcell
    have hneg : ¬ (p : Int) < 0 := by omega
    have hgt : ¬ (l.length : Int) - 4 < (p : Int) := by omega
    go_enter Tryd.func20, Tryd.ntmps20
    go_wp2_with (at_builtin; refine wpList_append_own _ rfl _ _ 23 rfl w.heap.size 5 i0 (.int .u8 0) 1 1 Tryd.underlying23 hi hz0 hz1 hz2 rfl (by decide) _ 0 [] rfl (World.ownsRow_nil _ _ _ _) ⟨b, off, none⟩ l.length c (Lb l) rfl (by rw [Lb_len]; omega) (fun j u hj => by rw [addr_add]; exact HC.out j u hj) (Lb_one l) (by have := HL.out; unfold maxLen; omega) (by have := HL.out; omega) (Nat.le_refl _) ?_; intro v' w1 hown hgrow _)
    have hbel : Below w.heap.size w w1 := (Below.refl _ _).grown hgrow (Nat.le_refl _) (fun k hk => absurd (show (none : Option Nat) = some k from hk) (by simp))
    have hown' : w1.ownsRow w.heap.size 5 1 v' l.length (Lb l) := by simpa using hown
    clear hown hgrow
    have HO := hid hown'
    have HB := hid hbel
    clear hown' hbel hi hz0 hz1 hz2
    obtain ⟨F, hF⟩ : ∃ F, run (~~~ 0#32) (ws (l.take p)) = F := ⟨_, rfl⟩
    refine (more_any 0#32 _ (by decide) _ (l.take p) _ (by
      have h2 := Sl_cut (n := l.length) (lo := 0) (hi := p) (by have h0 := HV.out; rw [Lb_len] at h0; exact Sl_below h0 HB.out (Nat.le_refl _)) (Nat.zero_le _) (by omega)
      rw [show Lb (l.take p) = (Lb l).take p from by simp [Lb, List.map_take]]
      simpa using h2) (Tab_below HT.out HB.out hTs)).mono ?_
    rintro e w2 ⟨rfl, hw⟩
    obtain rfl := hw
    have hx1 : bits .xor .u32 IntKind.u32.max (J (more 0#32 (ws (l.take p)))) = J F := by
      have e : ~~~ (more 0#32 (ws (l.take p))) = F := by unfold more; rw [CrcPlain.not_not]; exact hF
      rw [J_not, e]
    have hx2 := J_not want
    have HF := hid hF
    clear hF
    go_wp2_with fail
    clear hx1 hx2
    go_loop [10, 11] (fun r i => ∃ q : Nat, p ≤ q ∧ q ≤ l.length ∧ i = .int .i64 (q - 1 : Int) ∧ r = .int .u32 (J (backTo want l p q))) (fun _ i => (intOf i + 1).toNat)
    case atStart => exact ⟨l.length, by omega, by omega, rfl, val_u32 (by rw [backTo_start want l p hp])⟩
    case round =>
      obtain ⟨q, hpq, hql, rfl, rfl⟩ := hrel
      by_cases hlt : p < q
      · go_wp2_with fail
        obtain ⟨R0, hR0⟩ : ∃ R0, backTo want l p q = R0 := ⟨_, rfl⟩
        rw [hR0]
        have HR0 := hid hR0
        clear hR0
        go_loop [10, 39] (fun r j => ∃ k : Nat, k ≤ 8 ∧ j = .int .i64 k ∧ r = .int .u32 (J (unsteps k R0))) (fun _ j => 8 - (intOf j).toNat)
        case atStart => exact ⟨0, by omega, rfl, rfl⟩
        case round =>
          obtain ⟨k, hk, rfl, rfl⟩ := hrel
          by_cases hk8 : k < 8
          · have g0 := J_nonneg (unsteps k R0)
            have ht := unstep_test (unsteps k R0)
            by_cases hb : (unsteps k R0).getLsbD 31 = true
            · rw [hb] at ht
              have hy := hid (unstep_yes _ hb)
              clear hb
              go_wp2
              go_round
              case rel => exact ⟨k + 1, by omega, by go_num, val_u32 (by have e := hy.out; rw [IntKind.wrap_u32'] at e; rw [unsteps_succ', ← e])⟩
              case measure => simp [intOf]; omega
            · have hb' : (unsteps k R0).getLsbD 31 = false := by simpa using hb
              rw [hb'] at ht
              have hy := unstep_no _ hb'
              clear hb hb'
              go_wp2
              go_round
              case rel => exact ⟨k + 1, by omega, by go_num, val_u32 (by rw [unsteps_succ'])⟩
              case measure => simp [intOf]; omega
          · obtain rfl : k = 8 := by omega
            obtain ⟨q', rfl⟩ : ∃ q', q = q' + 1 := ⟨q - 1, by omega⟩
            by_cases hfar : p + 4 ≤ q'
            · have hq : q' < l.length := by omega
              have hi' : (q' : Int) < (l.length : Int) := by omega
              have cq : w1.cell? ⟨b, off + q', none⟩ = some (.int .u8 (K l[q'])) := by
                rw [HB.out.cell (p := ⟨b, off + q', none⟩) hb]
                exact HC.out q' _ (Lb_get hq)
              have E0 : IntKind.u32.wrap (K l[q']) = J (wd l[q']) := by
                rw [J_wd, IntKind.wrap_u32']
                have := K_nonneg l[q']; have := K_lt l[q']; omega
              have E1 : bits .xor .u32 (J (unsteps 8 R0)) (J (wd l[q'])) = J (backTo want l p q') := by
                rw [J_xor, ← HR0.out, backTo_far want l p q' hfar hq]
              go_wp2
              go_round
              case rel => exact ⟨q', by omega, by omega, rfl, rfl⟩
              case measure => simp [intOf]
            · have hnear := backTo_near want l p q' hfar
              rw [HR0.out] at hnear
              have HN := hid hnear
              clear hnear
              go_wp2
              go_round
              case rel => exact ⟨q', by omega, by omega, rfl, val_u32 (by rw [HN.out])⟩
              case measure => simp [intOf]
      · obtain rfl : q = p := by omega
        obtain ⟨X, hX⟩ : ∃ X, patchWord want l q = X := ⟨_, rfl⟩
        have hx : bits .xor .u32 (J (backTo want l q q)) (J F) = J X := by
          rw [J_xor, ← HF.out, ← hX]; rfl
        have g0 := J_nonneg X
        have HX := hid hX
        clear hX
        obtain ⟨g, cap, hv'⟩ : ∃ g cap, v' = .slice (some ⟨g, 0, none⟩) l.length cap := by
          rcases HO.out.2 with ⟨_, h3⟩ | ⟨g, cap, cur, hv, _⟩
          · omega
          · exact ⟨g, cap, hv⟩
        rw [hv'] at HO ⊢
        have hg : w.heap.size ≤ g := by
          have := HO.out.lt g rfl; exact this.1
        clear hv'
        go_wp2_with fail
        go_loopw [65] (fun i wr => ∃ k : Nat, k ≤ 4 ∧ i = .int .i64 k ∧ wr.ownsRow w.heap.size 5 1 (.slice (some ⟨g, 0, none⟩) l.length cap) l.length (Lb (patchTo X l q k)) ∧ Below w.heap.size w wr) (fun i _ => 4 - (intOf i).toNat)
        case atStart => exact ⟨0, by omega, rfl, by rw [patchTo_zero]; exact HO.out, HB.out⟩
        case round =>
          obtain ⟨k, hk, rfl, hoR, hbR⟩ := hrel
          have HOR := hid hoR
          have HBR := hid hbR
          clear hoR hbR
          by_cases hk4 : k < 4
          · have hqk : q + k < l.length := by omega
            have hqk' : (q : Int) + (k : Int) < (l.length : Int) := by omega
            have hlen := patchTo_len X l q k (by omega)
            have hck : ∃ u, wr.cell? ⟨g, q + k, none⟩ = some u := by
              rw [HOR.out.cellAt (q + k) (by omega)]
              have : q + k < (Lb (patchTo X l q k)).length := by rw [Lb_len, hlen]; exact hqk
              exact ⟨_, List.getElem?_eq_getElem this⟩
            obtain ⟨u, hcu⟩ := hck
            have hfr : wr.frozen? ⟨g, q + k, none⟩ = false := HOR.out.frozenAt (q + k)
            clear hlen
            go_wp2
            go_roundw
            case rel =>
              refine ⟨k + 1, by omega, by go_num, ?_, HBR.out.setCell hg _⟩
              have h8 := (HOR.out.stored (q + k) (.int .u8 (K (b8 X k)))).1
              rw [Lb_set, patchTo_next X l q k hqk] at h8
              have e8 := K_b8 X k
              rw [IntKind.wrap_u8'] at e8
              rw [e8]
              exact h8
            case measure => simp [intOf]; omega
          · obtain rfl : k = 4 := by omega
            go_wp2
            go_ret2
            exact ⟨_, rfl, by rw [HX.out]; exact HOR.out, HBR.out⟩
end Go.Proofs.YtffkegfhnlkonaaDoor
