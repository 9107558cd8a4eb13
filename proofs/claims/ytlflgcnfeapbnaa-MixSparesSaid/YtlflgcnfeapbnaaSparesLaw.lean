/- The law MixSpares, by its contracts. -/
import Derived.Test.YtlflgcnfeapbnaaApartB
namespace Go.Proofs.Ytlflgcnfeapbnaa
open Go.RowKit MixPlain

theorem copy_any (v : Value) (l : List Nat) (w : World) (hv : Sl w v (Eb l)) (hl : l.length ≤ 1000000) :
    Calls Try.prog 21 #[v] w fun e w' => ∃ v', e = .returned v' ∧ w'.ownsRow w.heap.size 22 1 v' l.length (Eb l) ∧ Below w.heap.size w w' := by
  obtain ⟨a, c, rfl, hc, hcm, h1⟩ := hv
  rw [Eb_len] at hc ⊢
  unfold maxLen at hcm
  obtain ⟨i0, hi, hz0, hz1, hz2⟩ := info_parts infoE
  have HL := hid hl
  have HI := hid hi
  have HZ := hid hz2
  clear hl hi hz2
  rcases h1 with ⟨h0, rfl, rfl⟩ | ⟨b, off, rfl, hb, hcell⟩
  · have hl0 : l = [] := by simpa [Eb] using h0
    subst hl0
    go_enter Try.func21, Try.ntmps21
    go_wp2
    go_ret
    exact ⟨_, rfl, World.ownsRow_nil _ _ _ _, Below.refl _ _⟩
  · have HC := hid hcell
    clear hcell
    go_enter Try.func21, Try.ntmps21
    go_wp2_with (at_builtin; refine wpList_append_own _ rfl _ _ 29 rfl w.heap.size 22 i0 (.int .u64 0) 1 8 Try.underlying29 HI.out hz0 hz1 HZ.out rfl (by decide) _ 0 [] rfl (World.ownsRow_nil _ _ _ _) ⟨b, off, none⟩ l.length c (Eb l) rfl (by rw [Eb_len]; omega) (fun j u hj => by rw [addr_add]; exact HC.out j u hj) (Eb_one l) (by have := HL.out; unfold maxLen; omega) (by have := HL.out; omega) (Nat.le_refl _) ?_; intro v' w1 hown hgrow _)
    go_ret
    refine ⟨_, rfl, by simpa using hown, (Below.refl _ _).grown hgrow (Nat.le_refl _) (fun k hk => ?_)⟩
    exact absurd (show (none : Option Nat) = some k from hk) (by simp)

theorem two_new (w : World) (x0 x1 : Value) (t : TypeId) : ∀ j u, [x0, x1][j]? = some u → (w.alloc (.cells #[x0, x1] t)).cell? ⟨w.heap.size, j, none⟩ = some u := by
  intro j u h
  rw [World.cell?_alloc_at _ _ _ _ rfl]
  simpa using h

set_option maxRecDepth 8000 in
set_option maxHeartbeats 4000000 in
theorem mixSpares_any (seed : BitVec 64) (x : Int) (w : World) :
    Calls Try.prog 9 #[.int .u64 (I seed), .int .i64 x] w fun e w' => e = .returned (.bool true) ∧ Below w.heap.size w w' := by
  obtain ⟨n, hn⟩ : ∃ n : Nat, x % 300 = n := ⟨(x % 300).toNat, by omega⟩
  have hnb : n < 300 := by omega
  have HPK := hid hn
  have hlen : (words seed n).length = n := words_len seed n
  obtain ⟨q, hq⟩ : ∃ q : List Nat, q = (words seed n).map BitVec.toNat := ⟨_, rfl⟩
  have hL : L (words seed n) = Eb q := by rw [Eb_L, hq]
  have hql : q.length = n := by rw [hq, List.length_map, hlen]
  have HL := hid hL
  have HQL := hid hql
  have HS : ∀ w, Calls Try.prog 17 #[.int .u64 (I seed), .int .i64 n] w fun e w' => ∃ g, e = .returned (.tuple #[.slice (some ⟨g, 0, none⟩) n n, .int .i64 0]) ∧ w'.ownsRow w.heap.size 22 1 (.slice (some ⟨g, 0, none⟩) n n) n (Eb q) ∧ Below w.heap.size w w' := fun w => by
    rw [← hL]; exact mixWords_row seed n (by omega) w
  have HS := hid HS
  clear hn hlen hq hL hql
  go_enter Try.func9, Try.ntmps9
  go_wp2_with fail
  refine (pick_any x 300 (by omega) (by omega) _).mono ?_
  rintro e w1 ⟨rfl, hw⟩
  obtain rfl := hw
  rw [HPK.out]
  go_wp2_with fail
  refine (HS.out _).mono ?_
  rintro e w1 ⟨gx, rfl, ho, hb⟩
  have HX1 := hid ho
  have HB1 := hid hb
  clear ho hb
  go_wp2_with fail
  refine (HS.out _).mono ?_
  rintro e w2 ⟨gy, rfl, ho, hb⟩
  have HY2 := hid ho
  have HX2 := hid (own_below HX1.out hb (Nat.le_refl _))
  have HF := hid (show Far (.slice (some ⟨gx, 0, none⟩) n n) (.slice (some ⟨gy, 0, none⟩) n n) from fun k h1 h2 => by
    have e1 := (HX1.out.lt k h1).2
    have e2 := (ho.lt k h2).1
    omega)
  have HB12 := hid hb
  have HB2 := hid (HB1.out.trans (hb.mono HB1.out.size))
  clear ho hb
  go_wp2_with fail
  have hcp := copy_any _ q _ (Sl_of_own HX2.out) (by have := HQL.out; omega)
  rw [HQL.out] at hcp
  refine hcp.mono ?_
  clear hcp
  rintro e w3 ⟨vw, rfl, ho, hb⟩
  obtain ⟨aw, cw, rfl, _, _⟩ := own_form ho
  have HW3 := hid ho
  have HX3 := hid (own_below HX2.out hb (Nat.le_refl _))
  have HY3 := hid (own_below HY2.out hb (Nat.le_refl _))
  have HB3 := hid (HB2.out.trans (hb.mono HB2.out.size))
  clear ho hb
  go_wp2_with fail
  have hcells := two_new w3 (.slice (some ⟨gx, 0, none⟩) n n) (.slice (some ⟨gy, 0, none⟩) n n) 29
  refine (apart_any w.heap.size w3.heap.size 2 (fun k => if k = 0 then some ⟨gx, 0, none⟩ else some ⟨gy, 0, none⟩) (fun _ => n) (fun _ => n) (fun _ => q) _ ?_ HF.out (fun k hk => by show n ≤ 1000000; omega) ?_ ?_).mono ?_
  · intro k hk
    rcases (show k = 0 ∨ k = 1 by omega) with rfl | rfl
    · exact HX3.out.alloc _
    · exact (own_mono HY3.out HB1.out.size).alloc _
  · intro k hk
    rcases (show k = 0 ∨ k = 1 by omega) with rfl | rfl
    · exact hcells 0 _ rfl
    · exact hcells 1 _ rfl
  · have := HB3.out.size
    simp; omega
  rintro e w4 ⟨rfl, hb, hp4⟩
  have hw4 : w4.ownsRow w2.heap.size 22 1 (.slice aw n cw) n (Eb q) := by
    refine own_block (HW3.out.alloc (.cells #[.slice (some ⟨gx, 0, none⟩) n n, .slice (some ⟨gy, 0, none⟩) n n] 29)) (fun k hk => hp4 k (own_lt (HW3.out.alloc _) hk) (fun j hj e => ?_))
    have h1 := (HW3.out.lt k hk).1
    rcases (show j = 0 ∨ j = 1 by omega) with rfl | rfl
    · have := (HX1.out.lt k e).2; have := HB12.out.size; omega
    · have := (HY2.out.lt k e).2; omega
  have HW4 := hid hw4
  have HB4 := hid ((HB3.out.alloc HB3.out.size _).trans hb)
  clear hb hp4 hw4 hcells
  go_wp2_with fail
  refine (HS.out _).mono ?_
  rintro e w5 ⟨gz, rfl, ho, hb⟩
  have HZ5 := hid ho
  have HW5 := hid (own_below HW4.out hb (Nat.le_refl _))
  have HB5 := hid (HB4.out.trans (hb.mono HB4.out.size))
  clear ho hb
  have hnn : ((n : Int) == (n : Int)) = true := by simp
  go_wp2_with fail
  have hsame := same_any (words seed n) (words seed n) _ _ w5 (by rw [HL.out]; exact Sl_of_own HZ5.out) (by rw [HL.out]; exact Sl_of_own HW5.out)
  rw [show decide (words seed n = words seed n) = true by simp] at hsame
  refine hsame.mono ?_
  clear hsame
  rintro e w6 ⟨rfl, m6, rfl⟩
  go_wp2_with fail
  refine (awake_any _).mono ?_
  rintro e w7 ⟨rfl, hw⟩
  obtain rfl := hw
  go_wp2_with fail
  go_ret
  exact ⟨rfl, HB5.out.trans ⟨rfl, rfl, rfl, Nat.le_refl _, fun _ _ => rfl⟩⟩
end Go.Proofs.Ytlflgcnfeapbnaa
