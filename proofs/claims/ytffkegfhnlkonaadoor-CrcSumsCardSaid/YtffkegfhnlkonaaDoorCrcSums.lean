/- 'CrcSums' (gangway/gangwaylaw03.CrcSums): for every input the call returns true and leaves its arguments and all older memory as they were; the table is as the program's text lays it. -/
import Derived.Test.YtffkegfhnlkonaaDoorLift
import Derived.Test.YtffkegfhnlkonaaDoorMends
import Derived.Test.YtffkegfhnlkonaaDoorSumsLaw
import Derived.WalkKit
namespace Go.Proofs.YtffkegfhnlkonaaDoor.crcSums
open Go.ChangeShapes Go.WideShapes Go.ChangeAt Go.RowKit CrcPlain
set_option linter.unusedVariables false

theorem walk (a0 : Int) (a1 : Option Addr) (len1 cap1 : Nat) (l1 : List (BitVec 8)) (a2 : Option Addr) (len2 cap2 : Nat) (l2 : List (BitVec 8)) (w : World) (w0 : (Lit.int .u32 a0).wf = true) (s1 : Sl w (.slice a1 len1 cap1) (Lb l1)) (n1 : l1.length ≤ 140737488351232) (s2 : Sl w (.slice a2 len2 cap2) (Lb l2)) (n2 : l2.length ≤ 140737488351232) (hT : Tab w) :
    Calls Tryd.prog 3 #[.int .u32 a0, .slice a1 len1 cap1, .slice a2 len2 cap2] w fun e w' => e = .returned (.bool true) ∧ Below w.heap.size w w' := by
  rw [u32_of_wf w0]
  exact crcSums_any _ a1 a2 len1 len2 cap1 cap2 l1 l2 w hT s1 s2 n1 n2

set_option maxRecDepth 100000 in
theorem contract (H : Type) (enc : TypeId × Value → H) (W : World) (base : Nat) (args : Array Value) (ds gs : List (DataW H)) (before : List MemPlace)
    (hval : ∀ (j : Nat) t v, Tryd.f3.params[j]? = some t → args[j]? = some v → Value.okWide Tryd.prog W .any base t v)
    (hW : DataW.Whole enc Tryd.prog Tryd.f3.params.toList Rows.crcSumsSpec.vars false W args.toList ds gs before)
    (hsz0 : (DataW.weightsEach Tryd.prog (Tryd.f3.params.toList ++ Rows.crcSumsSpec.plain.varTypes Tryd.prog) (ds ++ gs)).all (· ≤ reachBytes) = true)
    (hL : laidMetH Tryd.prog Rows.crcSumsRow.laid W) :
    Calls Tryd.prog 3 args W fun e W' => ∃ v, e = .returned v ∧ Rows.crcSumsSpec.post enc Tryd.prog Tryd.f3 false true false false W args v W' := by
  have tab : Tab W := tab_of hL
  have hsz := hsz0
  have hW' := hW
  obtain ⟨p, q, hA0, hV, rfl, hfz, hnd⟩ := hW
  have hA : DataW.TrodAll enc Tryd.prog W 0 (fun _ => true) true Tryd.f3.params.toList args.toList ds p := hA0
  rw [Tryd.params3] at hA hval
  obtain ⟨v0, vs0, d0, ds0, p0, q0, hargs, rfl, rfl, h0, r0⟩ := trodAll_cons hA
  obtain ⟨v1, vs1, d1, ds1, p1, q1, rfl, rfl, rfl, h1, r1⟩ := trodAll_cons r0
  obtain ⟨v2, vs2, d2, ds2, p2, q2, rfl, rfl, rfl, h2, r2⟩ := trodAll_cons r1
  obtain ⟨rfl, rfl, rfl⟩ := trodAll_nil r2
  obtain rfl : args = #[v0, v1, v2] := by cases args; simp_all
  obtain ⟨rfl, rfl⟩ := trodVars_none hV
  obtain ⟨a0, rfl, rfl, rfl, w0⟩ := open_int Tryd.underlying22 (hval 0 22 v0 rfl rfl) h0
  obtain ⟨a1, len1, cap1, rfl⟩ := okWide_slice Tryd.underlying23 (hval 1 23 v1 rfl rfl)
  have k1 := h1
  have lt1 : ∀ x ∈ p1, x.block < W.heap.size := by obtain ⟨m, hm⟩ := k1; exact DataW.trod_lt m _ _ _ hm
  obtain ⟨l1, s1, n1, e1⟩ : ∃ l : List (BitVec 8), Sl W (.slice a1 len1 cap1) (Lb l) ∧ l.length ≤ 140737488351232 ∧ l.length ≤ Rows.uptoBulk d1 := by
    obtain ⟨fuel, hf⟩ := h1
    obtain ⟨l, hl1, hl2⟩ := open_bytes hf
    refine ⟨l, hl1, ?_, bytes_bulk hl2⟩
    rcases hl2 with ⟨_, rfl⟩ | ⟨elems, spare, he, hlen⟩
    · simp
    · have hb := sized_slice hsz (j := 1) (t := 23) (e := 5) rfl (by simpa using he) Tryd.underlying23
      rw [bytes5] at hb
      simp only [reachBytes] at hb
      omega
  obtain ⟨a2, len2, cap2, rfl⟩ := okWide_slice Tryd.underlying23 (hval 2 23 v2 rfl rfl)
  have k2 := h2
  have lt2 : ∀ x ∈ p2, x.block < W.heap.size := by obtain ⟨m, hm⟩ := k2; exact DataW.trod_lt m _ _ _ hm
  obtain ⟨l2, s2, n2, e2⟩ : ∃ l : List (BitVec 8), Sl W (.slice a2 len2 cap2) (Lb l) ∧ l.length ≤ 140737488351232 ∧ l.length ≤ Rows.uptoBulk d2 := by
    obtain ⟨fuel, hf⟩ := h2
    obtain ⟨l, hl1, hl2⟩ := open_bytes hf
    refine ⟨l, hl1, ?_, bytes_bulk hl2⟩
    rcases hl2 with ⟨_, rfl⟩ | ⟨elems, spare, he, hlen⟩
    · simp
    · have hb := sized_slice hsz (j := 2) (t := 23) (e := 5) rfl (by simpa using he) Tryd.underlying23
      rw [bytes5] at hb
      simp only [reachBytes] at hb
      omega
  clear hA0
  refine (walk a0 a1 len1 cap1 l1 a2 len2 cap2 l2 W w0 s1 n1 s2 n2 tab).mono fun e W' ⟨he, bel⟩ => ?_
  subst he
  exact ⟨_, rfl, _, _, _, [], _, [], hW', trodAll_mk1 (shut_bool Tryd.underlying4 _), (trodAll_cons_mk (shut_int Tryd.underlying22 w0) (trodAll_cons_mk (Below.trod laidOut (by kernel_rfl) (of_decide_eq_true (by kernel_rfl)) k1 bel lt1) (trodAll_cons_mk (Below.trod laidOut (by kernel_rfl) (of_decide_eq_true (by kernel_rfl)) k2 bel lt2) trodAll_mk0))), rfl, bel.frame _, fun h => by cases h⟩

theorem laid_met (os : Os) : laidMet Tryd.prog Rows.crcSumsRow.laid ((laidWorld os).forCall (fun _ _ => 0) ⟨#[], #[.int .u32 0, .slice none 0 0, .slice none 0 0], []⟩).memory :=
  laidMet_of_run' 8 (by kernel_rfl) (by kernel_rfl)
theorem reads (os : Os) {H : Type} (enc : TypeId × Value → H) : ∃ places, DataW.whole enc Tryd.prog ((laidWorld os).forCall (fun _ _ => 0) ⟨#[], #[.int .u32 0, .slice none 0 0, .slice none 0 0], []⟩).memory Tryd.f3.params.toList Rows.crcSumsSpec.vars false #[.int .u32 0, .slice none 0 0, .slice none 0 0].toList 8 = some ([.lit (.int .u32 0), .nil, .nil], [], places) :=
  ⟨[], by kernel_rfl⟩

set_option maxRecDepth 100000 in
theorem lifted (os : Os) (started : os.Started) (H : Type) (enc : TypeId × Value → H) (F : Stop.Interp) :
    ReturnsInHanded {} Tryd.checked os 3 .any ((OpenSpec.ofChange Rows.crcSumsSpec).preRow enc Tryd.prog Tryd.f3 Rows.crcSumsRow.domain false Rows.crcSumsRow.laid) (((OpenSpec.ofChange Rows.crcSumsSpec).at F).post enc Tryd.prog Tryd.f3 false true false false) := by
  obtain ⟨places, hx⟩ := reads os enc
  refine returnsInHanded_of_row (C := Tryd.checked) (s := (OpenSpec.ofChange Rows.crcSumsSpec)) own started (by kernel_rfl) Tryd.func3
    (witness_row_at (enc := enc) (C := Tryd.checked) false (laidWorld os) #[.int .u32 0, .slice none 0 0, .slice none 0 0] rfl (by kernel_rfl) (by kernel_rfl) (by kernel_rfl)
      (OpenSpec.preRow_of_cond 8 hx (by kernel_rfl) (fun k hk => by cases hk) (by kernel_rfl) (laid_met os))) ?_
  intro W base args ds gs before hval hW _ hcond hsz hL _ _
  exact contract H enc W base args ds gs before hval hW hsz hL

theorem said : Rows.CrcSumsSaid :=
  OpenClaim.holds_of_cond 3 Tryd.f3 rfl rfl rfl rfl rfl rfl rfl ⟨rfl, rfl, rfl, rfl, rfl⟩ rfl rfl rfl rfl rfl (by kernel_rfl) Tryd.func3 (by kernel_rfl)
    (of_decide_eq_true (by kernel_rfl)) (by unfold Func.isWrapper; first | (rw [if_pos (by decide +kernel)]; kernel_rfl) | (rw [if_neg (by decide +kernel)]; exact ⟨rfl, rfl⟩))
    (fun os started H enc _ F => by rw [OpenClaim.pre_eq_preRow]; exact lifted os started H enc F)

theorem plain (f : FuncId) (fn : Func) (hf : Tryd.pinned.checked.prog.funcNamed "gangway/gangwaylaw03.CrcSums" = some f) (hfn : Tryd.pinned.checked.prog.funcs[f]? = some fn) :
    false = Tryd.pinned.checked.prog.looks [] ∧ ∀ (j : Nat) t, fn.params[j]? = some t → Tryd.pinned.checked.prog.wantsStandIn t = false := by
  obtain rfl : f = 3 := Option.some.inj ((show Tryd.prog.funcNamed "gangway/gangwaylaw03.CrcSums" = some 3 by kernel_rfl).symm.trans hf) |>.symm
  obtain rfl : fn = Tryd.f3 := (Option.some.inj (Tryd.func3.symm.trans hfn)).symm
  refine ⟨by kernel_rfl, fun j t ht => ?_⟩
  rw [Tryd.params3] at ht
  have no22 : Tryd.prog.wantsStandIn 22 = false := by kernel_rfl
  have no23 : Tryd.prog.wantsStandIn 23 = false := by kernel_rfl
  match j, ht with
  | 0, ht => exact (show 22 = t by simpa using ht) ▸ no22
  | 1, ht => exact (show 23 = t by simpa using ht) ▸ no23
  | 2, ht => exact (show 23 = t by simpa using ht) ▸ no23
  | j + 3, ht => simp at ht

theorem proved : Rows.CrcSumsCardSaid :=
  Claim7.holds_tied_plain_at .later [] _ _ _ _ said (fun _ h => by cases h) (by kernel_rfl) (fun _ h => by cases h) crcSums_row_tie rfl ⟨rfl, rfl⟩ (by kernel_rfl) rfl plain (by kernel_rfl)
#print axioms proved
end Go.Proofs.YtffkegfhnlkonaaDoor.crcSums
