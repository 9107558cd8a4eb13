/- Bytes that are lent: LentBytes, KeptBytes. -/
import Derived.Test.YtffkegfhnlkonaaDoorMends
import Derived.Maps.AppendAt
namespace Go.Proofs.YtffkegfhnlkonaaDoor
open Go.RowKit CrcPlain

theorem i64_in (n : Int) (h : -9223372036854775808 ≤ n ∧ n ≤ 9223372036854775807) : IntKind.i64.wrap n = n := by rw [IntKind.wrap_i64]; omega

theorem mark_any (k i : Nat) (hk : k ≤ 1000) (hi : i ≤ 281474976710656) (w : World) : Calls Tryd.prog 35 #[.int .i64 k, .int .i64 i] w fun e w' => e = .returned (.int .i64 ((1000003 * (k + 7) + i : Nat) : Int)) ∧ w = w' := by
  have e1 : IntKind.i64.wrap ((k : Int) + 7) = (k : Int) + 7 := i64_in _ (by omega)
  have e2 : IntKind.i64.wrap (1000003 * ((k : Int) + 7)) = 1000003 * ((k : Int) + 7) := i64_in _ (by omega)
  have e3 : IntKind.i64.wrap (1000003 * ((k : Int) + 7) + i) = ((1000003 * (k + 7) + i : Nat) : Int) := by rw [i64_in _ (by omega)]; omega
  go_enter Tryd.func35, Tryd.ntmps35
  go_wp2
  go_ret
  refine ⟨congrArg Ending.returned (congrArg (Value.int .i64) ?_), rfl⟩
  omega

/-- the mark of a place, of bytes -/
def mb (k i : Nat) : BitVec 8 := BitVec.ofNat 8 ((1000003 * (k + 7) + i) * 11400714819323198485 % 18446744073709551616 / 72057594037927936)

theorem markByte_any (k i : Nat) (hk : k ≤ 1000) (hi : i ≤ 281474976710656) (w : World) : Calls Tryd.prog 27 #[.int .i64 k, .int .i64 i] w fun e w' => e = .returned (.int .u8 (K (mb k i))) ∧ w = w' := by
  obtain ⟨n, hn⟩ : ∃ n, 1000003 * (k + 7) + i = n := ⟨_, rfl⟩
  have hn2 : n ≤ 1000000000000000 := by omega
  go_enter Tryd.func27, Tryd.ntmps27
  go_wp2_with fail
  refine (mark_any k i hk hi _).mono ?_
  rintro e w1 ⟨rfl, hw⟩
  obtain rfl := hw
  rw [hn]
  go_wp2
  go_ret
  unfold mb
  rw [hn]
  refine ⟨congrArg Ending.returned (congrArg (Value.int .u8) ?_), rfl⟩
  unfold K
  rw [IntKind.wrap_u64, BitVec.toNat_ofNat, show (2 ^ 8 : Nat) = 256 from rfl, Int.natCast_emod, Int.natCast_ediv, Int.natCast_emod, Int.natCast_mul]
  rfl
theorem Sl_parts {w : World} {v : Value} {l : List (BitVec 8)} (h : Sl w v (Lb l)) : ∃ a c, v = .slice a l.length c ∧ l.length ≤ c ∧ c ≤ maxLen ∧ (a = none → l.length = 0 ∧ c = 0) ∧
    (∀ ad, a = some ad → ∀ j u, (Lb l)[j]? = some u → w.cell? (ad.add j) = some u ∧ (ad.add j).block < w.heap.size) := by
  obtain ⟨a, c, rfl, hc, hcm, h1⟩ := h
  rw [Lb_len] at hc ⊢
  refine ⟨a, c, rfl, hc, hcm, ?_, ?_⟩
  · rintro rfl
    rcases h1 with ⟨h0, rfl⟩ | ⟨b, off, h9, _⟩
    · exact ⟨by omega, rfl⟩
    · cases h9
  · rintro ad rfl j u hj
    rcases h1 with ⟨h0, _⟩ | ⟨b, off, h9, hb, hcell⟩
    · rw [h0] at hj; simp at hj
    · cases h9
      rw [addr_add]
      exact ⟨hcell j u hj, hb⟩

/-- the marks behind lent bytes -/
def marks (k : Nat) : List (BitVec 8) := (List.range k).map (mb 1)
theorem marks_len (k : Nat) : (marks k).length = k := by simp [marks]
theorem marks_succ (k : Nat) : marks (k + 1) = marks k ++ [mb 1 k] := by simp [marks, List.range_succ]
theorem Lb_app (a b : List (BitVec 8)) : Lb (a ++ b) = Lb a ++ Lb b := by simp [Lb]

set_option maxRecDepth 4000 in
theorem lent_any (v : Value) (l : List (BitVec 8)) (w : World) (hv : Sl w v (Lb l)) (hl : l.length ≤ 140737488351240) :
    Calls Tryd.prog 11 #[v] w fun e w' => e = .returned (.slice (some ⟨w.heap.size, 0, none⟩) l.length (l.length + 12)) ∧ Below w.heap.size w w' ∧
      w'.ownsRow w.heap.size 5 1 (.slice (some ⟨w.heap.size, 0, none⟩) (l.length + 12) (l.length + 12)) (l.length + 12) (Lb (l ++ marks 12)) := by
  obtain ⟨a, c, rfl, hc, hcm, hnone, hcell⟩ := Sl_parts hv
  obtain ⟨n, hn⟩ : ∃ n, l.length = n := ⟨_, rfl⟩
  rw [hn] at hc hnone hl ⊢
  obtain ⟨i0, hi, hz0, hz1, hz2⟩ := info_parts info5
  have HI := hid hi
  have HZ := hid hz2
  have HC := hid hcell
  have HN := hid hnone
  have HL := hid hn
  clear hi hz2 hcell hnone hv hn
  unfold maxLen at hcm
  go_enter Tryd.func11, Tryd.ntmps11
  go_wp2_with (first
    | (at_make; refine wpList_make_own _ rfl _ _ 23 rfl w.heap.size 5 i0 (.int .u8 0) 1 Tryd.underlying23 HI.out hz0 hz1 .i64 .i64 _ (n + 12) rfl rfl (by push_cast; rfl) (by rw [HZ.out]; omega) (by unfold maxLen; omega) (Nat.le_refl _) ?_; intro w1 hown hgrow)
    | (at_builtin; refine wpList_append_fits_any _ rfl _ _ 23 rfl w.heap.size 5 i0 1 Tryd.underlying23 HI.out hz1 w.heap.size 0 (n + 12) [] rfl hown a n c (Lb l) rfl (by rw [Lb_len, HL.out]; omega) HN.out (fun ad h j u hu => by rw [((Below.refl _ _).grown (B := w.heap.size) hgrow (Nat.le_refl _) (fun k hk => absurd (show (none : Option Nat) = some k from hk) (by simp))).cell (HC.out ad h j u hu).2]; exact (HC.out ad h j u hu).1) (Lb_one l) (by omega) ?_; intro w2 hown2 hgrow2))
  have hb2 := ((Below.refl w.heap.size w).grown hgrow (Nat.le_refl _) (fun k hk => absurd (show (none : Option Nat) = some k from hk) (by simp))).grown hgrow2 (by have := hgrow.size; omega) (fun k hk => by cases hk; exact Nat.le_refl _)
  have HB := hid hb2
  have HO := hid hown2
  clear hgrow hgrow2 hown hown2 hb2
  go_loopw [3, 4] (fun s i wr => ∃ k : Nat, k ≤ 12 ∧ i = .int .i64 k ∧ s = .slice (some ⟨w.heap.size, 0, none⟩) (n + k) (n + 12) ∧ Below w.heap.size w wr ∧ wr.ownsRow w.heap.size 5 1 (.slice (some ⟨w.heap.size, 0, none⟩) (n + k) (n + 12)) (n + k) (Lb (l ++ marks k))) (fun _ i _ => 12 - (intOf i).toNat)
  case atStart => exact ⟨0, by omega, rfl, by simp, HB.out, by simpa [marks] using HO.out⟩
  case round =>
    obtain ⟨k, hk, rfl, rfl, hB, hO⟩ := hrel
    have HBR := hid hB
    have HOR := hid hO
    clear hB hO
    by_cases hlt : k < 12
    · have hlt' : (k : Int) < 12 := by omega
      go_wp2_with fail
      refine (markByte_any 1 k (by omega) (by omega) _).mono ?_
      rintro e w3 ⟨rfl, hw⟩
      obtain rfl := hw
      go_wp2_with (at_builtin; refine wpList_append_fits _ rfl _ _ 23 rfl w.heap.size 5 i0 1 Tryd.underlying23 HI.out hz1 w.heap.size (n + k) (n + 12) (Lb (l ++ marks k)) rfl (HOR.out.alloc _) ⟨wr.heap.size, 0, none⟩ 1 1 [.int .u8 (K (mb 1 k))] rfl rfl (cell_one_new _ _ _) (by intro u hu; rw [List.mem_singleton] at hu; subst hu; rfl) (by omega) ?_; intro w4 hown hgrow)
      go_roundw
      case rel =>
        refine ⟨k + 1, by omega, by go_num, rfl, ?_, ?_⟩
        · exact (HBR.out.alloc HBR.out.size _).grown hgrow (by have := HBR.out.size; simp; omega) (fun k hk => by cases hk; exact Nat.le_refl _)
        · rw [marks_succ, ← List.append_assoc, Lb_app]; exact hown
      case measure => simp [intOf]; omega
    · obtain rfl : k = 12 := by omega
      go_wp2
      go_ret
      exact ⟨rfl, HBR.out, HOR.out⟩
end Go.Proofs.YtffkegfhnlkonaaDoor
