/- The law CrcAlong, by its contracts. -/
import Derived.Test.YtffkegfhnlkonaaDoorAwake
import Derived.Laws.AppendOwnNone
namespace Go.Proofs.YtffkegfhnlkonaaDoor
open Go.RowKit CrcPlain

theorem ws_append (a b : List (BitVec 8)) : ws (a ++ b) = ws a ++ ws b := by simp [ws]
theorem Lb_append (a b : List (BitVec 8)) : Lb (a ++ b) = Lb a ++ Lb b := by simp [Lb]

theorem run_zeros (x : BitVec 32) (n : Nat) : run x (List.replicate n 0#32) = steps (8 * n) x := by
  induction n generalizing x with
  | zero => rfl
  | succ n ih =>
    rw [List.replicate_succ, show 8 * (n + 1) = 8 + 8 * n by omega, steps_add]
    show run (byte x 0#32) _ = _
    rw [ih]
    unfold byte
    rw [BitVec.xor_zero]

theorem zip_zeros (l : List (BitVec 32)) : List.zipWith (· ^^^ ·) (List.replicate l.length 0#32) l = l := by
  induction l with
  | nil => rfl
  | cons a l ih => rw [List.length_cons, List.replicate_succ, List.zipWith_cons_cons, ih, BitVec.zero_xor]

theorem join_sums (a b : List (BitVec 32)) : steps (8 * b.length) (more 0#32 a) ^^^ more 0#32 b = more 0#32 (a ++ b) := by
  have h := run_xor (List.replicate b.length 0#32) b (run (~~~ 0#32) a ^^^ (~~~ 0#32)) (~~~ 0#32) (by simp)
  rw [zip_zeros, run_zeros, BitVec.xor_assoc, BitVec.xor_self, BitVec.xor_zero] at h
  have e : run (~~~ 0#32) a ^^^ ~~~ 0#32 = more 0#32 a := by
    unfold more
    rw [show (~~~ 0#32 : BitVec 32) = BitVec.allOnes 32 from by decide, BitVec.xor_allOnes]
  rw [e] at h
  have e2 : more 0#32 (a ++ b) = ~~~ (run (run (~~~ 0#32) a) b) := by unfold more; rw [run_append]
  rw [e2, h]
  unfold more
  rw [BitVec.not_xor_right]

set_option maxHeartbeats 400000 in
theorem crcAlong_any (a1 a2 : Option Addr) (n1 n2 c1 c2 : Nat) (a b : List (BitVec 8)) (w : World) (hT : Tab w) (hu : Sl w (.slice a1 n1 c1) (Lb a)) (hv : Sl w (.slice a2 n2 c2) (Lb b)) (hk : a.length + b.length ≤ 1048576) :
    Calls Tryd.prog 7 #[.slice a1 n1 c1, .slice a2 n2 c2] w fun e w' => e = .returned (.bool true) ∧ Below w.heap.size w w' := by
  have hn1 : n1 = a.length := by obtain ⟨_, _, h, _⟩ := hu; rw [Lb_len] at h; cases h; rfl
  have hn2 : n2 = b.length := by obtain ⟨_, _, h, _⟩ := hv; rw [Lb_len] at h; cases h; rfl
  subst hn1 hn2
  have HT := hid hT
  have HU := hid hu
  have HV := hid hv
  have HK := hid hk
  have hTs := hT.size
  clear hT hu hv hk
  go_enter Tryd.func7, Tryd.ntmps7
  go_wp2_with fail
  refine (awake_any _ HT.out).mono ?_
  rintro e w1 ⟨rfl, hb1⟩
  have HB1 := hid hb1
  clear hb1
  go_wp2_with fail
  refine (copy_any _ a _ (Sl_below HU.out HB1.out (Nat.le_refl _)) (by have := HK.out; omega)).mono ?_
  rintro e w2 ⟨v2, rfl, ho2, hb2⟩
  have HO2 := hid ho2
  have HB2 := hid hb2
  have hb12 : Below w.heap.size w w2 := HB1.out.trans (hb2.mono HB1.out.size)
  have HB12 := hid hb12
  clear ho2 hb2 hb12
  obtain ⟨i0, hi, hz0, hz1, hz2⟩ := info_parts info5
  have HI := hid hi
  clear hi
  cases a2 with
  | none =>
    have hb0 : b = [] := by
      obtain ⟨_, _, h, _, _, hx⟩ := HV.out
      rw [Lb_len] at h
      cases h
      rcases hx with ⟨h0, _⟩ | ⟨g, o, hx, _⟩
      · simpa [Lb] using h0
      · cases hx
    have hc20 : c2 = 0 := by
      obtain ⟨_, _, h, _, _, hx⟩ := HV.out
      rw [Lb_len] at h
      cases h
      rcases hx with ⟨_, h0⟩ | ⟨g, o, hx, _⟩
      · exact h0
      · cases hx
    subst hb0 hc20
    obtain ⟨b, hb⟩ : ∃ b : List (BitVec 8), b = [] := ⟨_, rfl⟩
    have HBE := hid hb
    have hlb0 : (b.length : Int) = 0 := by rw [hb]; rfl
    have HLB0 := hid hlb0
    rw [← hb] at HK
    have HV := hid (show Sl w (.slice none 0 0) (Lb b) by rw [hb]; exact Sl_nil w)
    clear hb hlb0
    go_wp2_with (at_builtin; refine wpList_append_own_none rfl _ _ 23 rfl w1.heap.size 5 i0 1 Tryd.underlying23 HI.out _ a.length (Lb a) rfl HO2.out rfl ?_)
    have HS3 := hid (show Sl w2 v2 (Lb (a ++ b)) by rw [HBE.out, List.append_nil]; exact Sl_of_own HO2.out)
    have HB3 := HB12
    clear hz0 hz1 hz2
    have HJ := hid (join_sums (ws a) (ws b))
    have HM := hid (more_append 0#32 (ws a) (ws b))
    have HLb := hid (show (ws b).length = b.length by simp [ws])
    refine (sum_any _ (a ++ b) _ HS3.out (Tab_below HT.out HB3.out hTs)).mono ?_
    rintro e W3 ⟨rfl, hw⟩
    obtain rfl := hw
    obtain ⟨S, hS⟩ : ∃ S, more 0#32 (ws (a ++ b)) = S := ⟨_, rfl⟩
    rw [hS]
    have HS := hid hS
    clear hS
    go_wp2_with fail
    refine (copy_any _ a _ (Sl_below HU.out HB3.out (Nat.le_refl _)) (by have := HK.out; omega)).mono ?_
    rintro e w4 ⟨v4, rfl, ho4, hb4⟩
    have HO4 := hid ho4
    have HB4 := hid (HB3.out.trans (hb4.mono HB3.out.size))
    clear ho4 hb4
    go_wp2_with fail
    refine (sum_any _ a _ (Sl_of_own HO4.out) (Tab_below HT.out HB4.out hTs)).mono ?_
    rintro e W4 ⟨rfl, hw⟩
    obtain rfl := hw
    go_wp2_with fail
    refine (copy_any _ b _ (Sl_below HV.out HB4.out (Nat.le_refl _)) (by have := HK.out; omega)).mono ?_
    rintro e w5 ⟨v5, rfl, ho5, hb5⟩
    have HO5 := hid ho5
    have HB5 := hid (HB4.out.trans (hb5.mono HB4.out.size))
    clear ho5 hb5
    go_wp2_with fail
    refine (more_any (more 0#32 (ws a)) _ rfl _ b _ (Sl_of_own HO5.out) (Tab_below HT.out HB5.out hTs)).mono ?_
    rintro e W5 ⟨rfl, hw⟩
    obtain rfl := hw
    rw [HM.out, ← ws_append, HS.out]
    go_wp2_with fail
    refine (copy_any _ a _ (Sl_below HU.out HB5.out (Nat.le_refl _)) (by have := HK.out; omega)).mono ?_
    rintro e w6 ⟨v6, rfl, ho6, hb6⟩
    have HO6 := hid ho6
    have HB6 := hid (HB5.out.trans (hb6.mono HB5.out.size))
    clear ho6 hb6
    go_wp2_with fail
    refine (sum_any _ a _ (Sl_of_own HO6.out) (Tab_below HT.out HB6.out hTs)).mono ?_
    rintro e W6 ⟨rfl, hw⟩
    obtain rfl := hw
    go_wp2_with fail
    refine (copy_any _ b _ (Sl_below HV.out HB6.out (Nat.le_refl _)) (by have := HK.out; omega)).mono ?_
    rintro e w7 ⟨v7, rfl, ho7, hb7⟩
    have HO7 := hid ho7
    have HB7 := hid (HB6.out.trans (hb7.mono HB6.out.size))
    clear ho7 hb7
    go_wp2_with fail
    refine (sum_any _ b _ (Sl_of_own HO7.out) (Tab_below HT.out HB7.out hTs)).mono ?_
    rintro e W7 ⟨rfl, hw⟩
    obtain rfl := hw
    go_wp2_with fail
    refine (join_any (more 0#32 (ws a)) (more 0#32 (ws b)) _ _ 0 rfl rfl (by decide) _).mono ?_
    rintro e W8 ⟨rfl, hw⟩
    obtain rfl := hw
    rw [show (0 : Int).toNat = b.length from by have := HLB0.out; omega, ← HLb.out, HJ.out, ← ws_append, HS.out]
    go_wp2_with fail
    go_ret
    exact ⟨rfl, HB7.out⟩
  | some x =>
    have hc2 : ∀ j u, (Lb b)[j]? = some u → w2.cell? (x.add j) = some u := by
      intro j u hj
      obtain ⟨_, _, h, _, _, hx⟩ := Sl_below HV.out HB12.out (Nat.le_refl _)
      rw [Lb_len] at h
      cases h
      rcases hx with ⟨h0, _⟩ | ⟨g, o, hx, _, hcell⟩
      · rw [h0] at hj; simp at hj
      · cases hx; rw [addr_add]; exact hcell j u hj
    have HC2 := hid hc2
    clear hc2
    go_wp2_with (at_builtin; refine wpList_append_own _ rfl _ _ 23 rfl w1.heap.size 5 i0 (.int .u8 0) 1 1 Tryd.underlying23 HI.out hz0 hz1 hz2 rfl (by decide) _ a.length (Lb a) rfl HO2.out x b.length c2 (Lb b) rfl (by rw [Lb_len]; omega) HC2.out (Lb_one b) (by have := HK.out; unfold maxLen; omega) (by have := HK.out; omega) HB2.out.size ?_; intro v3 w3 ho3 hg3 _)
    have HS3 := hid (show Sl w3 v3 (Lb (a ++ b)) by rw [Lb_append]; exact Sl_of_own ho3)
    have HB3 := hid (HB12.out.grown hg3 HB12.out.size (fun k hk => Nat.le_trans HB1.out.size (HO2.out.lt k hk).1))
    clear ho3 hg3
    clear hz0 hz1 hz2
    have HJ := hid (join_sums (ws a) (ws b))
    have HM := hid (more_append 0#32 (ws a) (ws b))
    have HLb := hid (show (ws b).length = b.length by simp [ws])
    refine (sum_any _ (a ++ b) _ HS3.out (Tab_below HT.out HB3.out hTs)).mono ?_
    rintro e W3 ⟨rfl, hw⟩
    obtain rfl := hw
    obtain ⟨S, hS⟩ : ∃ S, more 0#32 (ws (a ++ b)) = S := ⟨_, rfl⟩
    rw [hS]
    have HS := hid hS
    clear hS
    go_wp2_with fail
    refine (copy_any _ a _ (Sl_below HU.out HB3.out (Nat.le_refl _)) (by have := HK.out; omega)).mono ?_
    rintro e w4 ⟨v4, rfl, ho4, hb4⟩
    have HO4 := hid ho4
    have HB4 := hid (HB3.out.trans (hb4.mono HB3.out.size))
    clear ho4 hb4
    go_wp2_with fail
    refine (sum_any _ a _ (Sl_of_own HO4.out) (Tab_below HT.out HB4.out hTs)).mono ?_
    rintro e W4 ⟨rfl, hw⟩
    obtain rfl := hw
    go_wp2_with fail
    refine (copy_any _ b _ (Sl_below HV.out HB4.out (Nat.le_refl _)) (by have := HK.out; omega)).mono ?_
    rintro e w5 ⟨v5, rfl, ho5, hb5⟩
    have HO5 := hid ho5
    have HB5 := hid (HB4.out.trans (hb5.mono HB4.out.size))
    clear ho5 hb5
    go_wp2_with fail
    refine (more_any (more 0#32 (ws a)) _ rfl _ b _ (Sl_of_own HO5.out) (Tab_below HT.out HB5.out hTs)).mono ?_
    rintro e W5 ⟨rfl, hw⟩
    obtain rfl := hw
    rw [HM.out, ← ws_append, HS.out]
    go_wp2_with fail
    refine (copy_any _ a _ (Sl_below HU.out HB5.out (Nat.le_refl _)) (by have := HK.out; omega)).mono ?_
    rintro e w6 ⟨v6, rfl, ho6, hb6⟩
    have HO6 := hid ho6
    have HB6 := hid (HB5.out.trans (hb6.mono HB5.out.size))
    clear ho6 hb6
    go_wp2_with fail
    refine (sum_any _ a _ (Sl_of_own HO6.out) (Tab_below HT.out HB6.out hTs)).mono ?_
    rintro e W6 ⟨rfl, hw⟩
    obtain rfl := hw
    go_wp2_with fail
    refine (copy_any _ b _ (Sl_below HV.out HB6.out (Nat.le_refl _)) (by have := HK.out; omega)).mono ?_
    rintro e w7 ⟨v7, rfl, ho7, hb7⟩
    have HO7 := hid ho7
    have HB7 := hid (HB6.out.trans (hb7.mono HB6.out.size))
    clear ho7 hb7
    go_wp2_with fail
    refine (sum_any _ b _ (Sl_of_own HO7.out) (Tab_below HT.out HB7.out hTs)).mono ?_
    rintro e W7 ⟨rfl, hw⟩
    obtain rfl := hw
    go_wp2_with fail
    refine (join_any (more 0#32 (ws a)) (more 0#32 (ws b)) _ _ (b.length : Int) rfl rfl (by have := HK.out; omega) _).mono ?_
    rintro e W8 ⟨rfl, hw⟩
    obtain rfl := hw
    rw [Int.toNat_natCast, ← HLb.out, HJ.out, ← ws_append, HS.out]
    go_wp2_with fail
    go_ret
    exact ⟨rfl, HB7.out⟩
end Go.Proofs.YtffkegfhnlkonaaDoor
