/- What every row of this seat asks: the table's premise, and how an argument of bytes is opened. -/
import Derived.Test.YtffkegfhnlkonaaDoorAwake
import Derived.Test.YtffkegfhnlkonaaDoorCards
import Derived.Test.YtffkegfhnlkonaaDoorTie
import Derived.ProofKit
import Derived.OpenShut
import Derived.Deep.DeepHandedRow
import Derived.Lib.LaidTab
namespace Go.Proofs.YtffkegfhnlkonaaDoor
open Go.ChangeShapes Go.WideShapes Go.ChangeAt Go.RowKit CrcPlain

theorem own : ownKnob Tryd.prog.godebug = none := by kernel_rfl
theorem laidOut : laidOutB Tryd.prog = true := by kernel_rfl
theorem gTab : Tryd.prog.globalNamed "gangway/crc.table" = some 0 := by kernel_rfl
theorem gTabType : (Tryd.prog.globals[0]?).map (·.type) = some 42 := by kernel_rfl
theorem cells42 : Tryd.prog.cellsOf 42 = 16 := by kernel_rfl
theorem cells22 : Tryd.prog.cellsOf 22 = 1 := by kernel_rfl
theorem cells5 : Tryd.prog.cellsOf 5 = 1 := by kernel_rfl
theorem bytes5 : Tryd.prog.bytesOf 5 = 1 := by kernel_rfl

def nums : List Int := [0, 498536548, 997073096, 651767980, 1994146192, 1802195444, 1303535960, 1342533948, 3988292384, 4027552580, 3604390888, 3412177804, 2607071920, 2262029012, 2685067896, 3183342108]

theorem nums_is : ∀ i : Fin 16, J (table.getD i.val 0#32) = nums.getD i.val 0 := by decide

set_option maxRecDepth 100000 in
theorem tab_of {W : World} (h : laidMetH Tryd.prog [("gangway/crc.table", Rows.laid_gangway_crc_table)] W) : Tab W := by
  have hT : Lib.TabIs Tryd.prog W "gangway/crc.table" .u32 nums := Lib.tabIs_of_head (rest := []) gTab gTabType Tryd.underlying42 Tryd.underlying22 cells22 cells42 h
  intro i hi
  have := hT.cell gTab i (by simpa [nums] using hi)
  rw [this, ← nums_is ⟨i, hi⟩]

/-- an argument of bytes, opened -/
theorem open_bytes {H : Type} {enc : TypeId × Value → H} {W : World} {a : Option Addr} {len cap fuel : Nat} {x : DataW H × List MemPlace}
    (hf : DataW.trod enc Tryd.prog W 0 (fun _ => true) true fuel 23 (Value.slice a len cap).cells.toList = some x) :
    ∃ l : List (BitVec 8), Sl W (.slice a len cap) (Lb l) ∧ ((x.1 = .nil ∧ l = []) ∨ ∃ elems spare, x.1 = .slice elems spare ∧ elems.length = l.length) := by
  rcases open_ints Tryd.underlying23 Tryd.underlying5 cells5 hf with ⟨hcs, hx⟩ | ⟨x', l, c, zs, hcs, _, hl, hm, hz, hx, hcell, hwz⟩
  · simp [Value.cells] at hcs
    obtain ⟨rfl, rfl, rfl⟩ := hcs
    exact ⟨[], Sl_nil W, Or.inl ⟨by rw [hx], rfl⟩⟩
  · simp [Value.cells] at hcs
    obtain ⟨rfl, rfl, rfl⟩ := hcs
    simp only [if_true] at hz
    have hbs : zs.map (Value.int .u8) = Lb (zs.map fun n => BitVec.ofNat 8 n.toNat) := by
      unfold Lb
      rw [List.map_map]
      apply List.map_congr_left
      intro n hn
      have h := hwz n hn
      have hb : 0 ≤ n ∧ n < 256 := by
        simp [Lit.wf, IntKind.min, IntKind.max, IntKind.signed, IntKind.bits] at h
        omega
      show _ = Value.int .u8 (K (BitVec.ofNat 8 n.toNat))
      rw [K_of n hb.1 hb.2]
    have hs := Sl_of_cells (w := W) (x := x') (len := len) (cap := cap) (zs := zs.map (Value.int .u8)) hl hm (by simpa using hz) (fun i u hu => by
      rw [List.getElem?_map] at hu
      have hlt : i < zs.length := by
        rcases Nat.lt_or_ge i zs.length with h | h
        · exact h
        · rw [List.getElem?_eq_none h] at hu; cases hu
      rw [hcell i hlt, ← hu, List.getElem?_eq_getElem hlt]
      simp [List.getD, hlt])
    refine ⟨(zs.map fun n => BitVec.ofNat 8 n.toNat).take len, ?_, Or.inr ⟨_, _, by rw [hx], ?_⟩⟩
    · rw [hbs] at hs
      rw [show Lb ((zs.map fun n => BitVec.ofNat 8 n.toNat).take len) = (Lb (zs.map fun n => BitVec.ofNat 8 n.toNat)).take len from by simp [Lb, List.map_take]]
      exact hs
    · simp [lits]

/-- what a reading holds is at least as much as its elements -/
theorem bulk_pos {H : Type} (d : DataW H) : 1 ≤ Rows.uptoBulk d := by
  cases d with
  | lit x => cases x <;> simp [Rows.uptoBulk]
  | nil => simp [Rows.uptoBulk]
  | ptr d => simp [Rows.uptoBulk]
  | slice a b => simp [Rows.uptoBulk]
  | agg a => simp [Rows.uptoBulk]
  | iface n d => simp [Rows.uptoBulk]
  | map m => simp [Rows.uptoBulk]
  | held h => simp [Rows.uptoBulk]
theorem bulkAll_len {H : Type} (l : List (DataW H)) : l.length ≤ Rows.uptoBulkAll l := by
  induction l with
  | nil => simp [Rows.uptoBulkAll]
  | cons d l ih => have := bulk_pos d; simp only [Rows.uptoBulkAll, List.length_cons]; omega
/-- an argument of bytes is no longer than its bulk -/
theorem bytes_bulk {H : Type} {d : DataW H} {l : List (BitVec 8)} (h : (d = .nil ∧ l = []) ∨ ∃ elems spare, d = .slice elems spare ∧ elems.length = l.length) : l.length ≤ Rows.uptoBulk d := by
  rcases h with ⟨_, rfl⟩ | ⟨elems, spare, rfl, hl⟩
  · simp
  · have := bulkAll_len elems
    simp only [Rows.uptoBulk]
    omega
theorem bulk_two {H : Type} {d e : DataW H} {l m : List (BitVec 8)} (hk : Rows.uptoSmall H [d, e] = true) (h1 : l.length ≤ Rows.uptoBulk d) (h2 : m.length ≤ Rows.uptoBulk e) : l.length + m.length ≤ 1048576 := by
  have h : Rows.uptoBulkAll [d, e] ≤ 1048576 := of_decide_eq_true hk
  simp only [Rows.uptoBulkAll] at h
  omega

/-- an argument that fits its kind is such a number -/
theorem u32_of_wf {n : Int} (h : (Lit.int .u32 n).wf = true) : n = J (BitVec.ofNat 32 n.toNat) := by
  have hb : 0 ≤ n ∧ n < 4294967296 := by
    simp [Lit.wf, IntKind.min, IntKind.max, IntKind.signed, IntKind.bits] at h
    omega
  exact (J_of n hb.1 hb.2).symm

/-- a world for the witness: the settled one, the table holding what its initialiser lays -/
noncomputable def laidWorld (os : Os) : World :=
  { World.holding Tryd.prog os ⟨#[], #[], []⟩ with heap := (World.holding Tryd.prog os ⟨#[], #[], []⟩).heap.modify 0 fun
      | .cells _ t frozen => .cells ((nums.map (Value.int .u32)).toArray) t frozen
      | o => o }
end Go.Proofs.YtffkegfhnlkonaaDoor
