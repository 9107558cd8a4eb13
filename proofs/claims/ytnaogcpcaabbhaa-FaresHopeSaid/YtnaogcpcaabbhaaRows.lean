/-
  No cell of these rows narrows 'for every input' (looked for: loops, veiled, ifaces, maps, wideKeys, modest, calm, conditions, laid).
  DERIVED. THE GIVEN ROWS OF THIS SEAT. 6 by the template 'for every input the law returns true; each argument reads behind the call as it read before'; 0 by the template 'total and deterministic' (their statements: YtnaogcpcaabbhaaTotals.lean).
  GIVEN WITH THE SEED: the statements are not yours to turn. If you find one false, say at which input.
  Laid BY PROGRAM, IN A SANDBOX (cutbox-rows.mjs): the forced cells as the released guide's own fill.sh prints them over the translation e3ddff8dcd899eab… (all of the seat's roots in one cut). By AI agents, Wed Nov 11 2026. No macro, syntax, notation, axiom, sorry.
-/
import Derived.Test.YtnaogcpcaabbhaaChecked
import GoSem.Claim
import GoSem.ClaimJoined
import GoSem.ClaimMapViews
import Derived.JoinedTies
import Derived.KernelRfl
namespace Go.Proofs.Ytnaogcpcaabbhaa
/- THE CELL 'sum', in the pinned program and in every row, IS THE sha256 OF THE DUMP (.gsa) THAT YtnaogcpcaabbhaaProg.lean LOADS. Nothing in Lean hashes anything: it is a label: what it is worth is what the hold of that sum in a sandbox is worth. -/
noncomputable def Try.pinned : Pinned := { name := "ytnaogcpcaabbhaa", sum := "e3ddff8dcd899eab1fa7fa64d5a348888f9c39dac5c3936c2e87b60d9fcf58c6", checked := Try.checked }
namespace Rows
def none {H : Type} : Left H := { results := [], args := [] }

/-- 'gangwaylaw26.FaresTells': WHATEVER THE INPUT: true; the input reads as it did. -/
def faresTellsSpec : ChangeSpec := { name := "faresTells", fn := fun _ => fun
  | [d1, d2] => { results := [.lit (.bool true)], args := [d1, d2] }
  | _ => none }
def faresTellsRow : OpenClaim := { program := "ytnaogcpcaabbhaa", sum := "e3ddff8dcd899eab1fa7fa64d5a348888f9c39dac5c3936c2e87b60d9fcf58c6", func := "gangway/gangwaylaw26.FaresTells", spec := "faresTells", inPlace := ["math.Float64frombits", "math.RoundToEven", "math.Float64bits"], apart := false }
def FaresTellsSaid : Prop := faresTellsRow.holds Try.pinned (OpenSpec.ofChange faresTellsSpec)

/-- ITS FALSE NEIGHBOUR: 'it returns false'. Refute it at one input. -/
def faresTellsWrong : ChangeSpec := { name := "faresTells", fn := fun _ => fun
  | [d1, d2] => { results := [.lit (.bool false)], args := [d1, d2] }
  | _ => none }
def FaresTellsWrongFalsely : Prop := faresTellsRow.holds Try.pinned (OpenSpec.ofChange faresTellsWrong)

/-- 'gangwaylaw26.FaresUnits': WHATEVER THE INPUT: true; the input reads as it did. -/
def faresUnitsSpec : ChangeSpec := { name := "faresUnits", fn := fun _ => fun
  | [d] => { results := [.lit (.bool true)], args := [d] }
  | _ => none }
def faresUnitsRow : OpenClaim := { program := "ytnaogcpcaabbhaa", sum := "e3ddff8dcd899eab1fa7fa64d5a348888f9c39dac5c3936c2e87b60d9fcf58c6", func := "gangway/gangwaylaw26.FaresUnits", spec := "faresUnits", inPlace := ["math.Float64frombits", "math.RoundToEven", "math.Float64bits"], apart := false }
def FaresUnitsSaid : Prop := faresUnitsRow.holds Try.pinned (OpenSpec.ofChange faresUnitsSpec)

/-- ITS FALSE NEIGHBOUR: 'it returns false'. Refute it at one input. -/
def faresUnitsWrong : ChangeSpec := { name := "faresUnits", fn := fun _ => fun
  | [d] => { results := [.lit (.bool false)], args := [d] }
  | _ => none }
def FaresUnitsWrongFalsely : Prop := faresUnitsRow.holds Try.pinned (OpenSpec.ofChange faresUnitsWrong)

/-- 'gangwaylaw26.FaresHope': WHATEVER THE INPUT: true; the input reads as it did. -/
def faresHopeSpec : ChangeSpec := { name := "faresHope", fn := fun _ => fun
  | [d1, d2] => { results := [.lit (.bool true)], args := [d1, d2] }
  | _ => none }
def faresHopeRow : OpenClaim := { program := "ytnaogcpcaabbhaa", sum := "e3ddff8dcd899eab1fa7fa64d5a348888f9c39dac5c3936c2e87b60d9fcf58c6", func := "gangway/gangwaylaw26.FaresHope", spec := "faresHope", inPlace := ["math.Float64frombits", "math.RoundToEven", "math.Float64bits"], recurses := true, apart := false }
def FaresHopeSaid : Prop := faresHopeRow.holds Try.pinned (OpenSpec.ofChange faresHopeSpec)

/-- ITS FALSE NEIGHBOUR: 'it returns false'. Refute it at one input. -/
def faresHopeWrong : ChangeSpec := { name := "faresHope", fn := fun _ => fun
  | [d1, d2] => { results := [.lit (.bool false)], args := [d1, d2] }
  | _ => none }
def FaresHopeWrongFalsely : Prop := faresHopeRow.holds Try.pinned (OpenSpec.ofChange faresHopeWrong)

/-- 'gangwaylaw26.FaresSure': WHATEVER THE INPUT: true; the input reads as it did. -/
def faresSureSpec : ChangeSpec := { name := "faresSure", fn := fun _ => fun
  | [d1, d2, d3] => { results := [.lit (.bool true)], args := [d1, d2, d3] }
  | _ => none }
def faresSureRow : OpenClaim := { program := "ytnaogcpcaabbhaa", sum := "e3ddff8dcd899eab1fa7fa64d5a348888f9c39dac5c3936c2e87b60d9fcf58c6", func := "gangway/gangwaylaw26.FaresSure", spec := "faresSure", inPlace := ["math.Float64frombits", "math.RoundToEven", "math.Float64bits"], apart := false }
def FaresSureSaid : Prop := faresSureRow.holds Try.pinned (OpenSpec.ofChange faresSureSpec)

/-- ITS FALSE NEIGHBOUR: 'it returns false'. Refute it at one input. -/
def faresSureWrong : ChangeSpec := { name := "faresSure", fn := fun _ => fun
  | [d1, d2, d3] => { results := [.lit (.bool false)], args := [d1, d2, d3] }
  | _ => none }
def FaresSureWrongFalsely : Prop := faresSureRow.holds Try.pinned (OpenSpec.ofChange faresSureWrong)

/-- 'gangwaylaw26.FaresAhead': WHATEVER THE INPUT: true; the input reads as it did. -/
def faresAheadSpec : ChangeSpec := { name := "faresAhead", fn := fun _ => fun
  | [d1, d2] => { results := [.lit (.bool true)], args := [d1, d2] }
  | _ => none }
def faresAheadRow : OpenClaim := { program := "ytnaogcpcaabbhaa", sum := "e3ddff8dcd899eab1fa7fa64d5a348888f9c39dac5c3936c2e87b60d9fcf58c6", func := "gangway/gangwaylaw26.FaresAhead", spec := "faresAhead", inPlace := ["math.Float64frombits", "math.RoundToEven", "math.Float64bits"], apart := false }
def FaresAheadSaid : Prop := faresAheadRow.holds Try.pinned (OpenSpec.ofChange faresAheadSpec)

/-- ITS FALSE NEIGHBOUR: 'it returns false'. Refute it at one input. -/
def faresAheadWrong : ChangeSpec := { name := "faresAhead", fn := fun _ => fun
  | [d1, d2] => { results := [.lit (.bool false)], args := [d1, d2] }
  | _ => none }
def FaresAheadWrongFalsely : Prop := faresAheadRow.holds Try.pinned (OpenSpec.ofChange faresAheadWrong)

/-- 'gangwaylaw26.FaresKeeps': WHATEVER THE INPUT: true; the input reads as it did. -/
def faresKeepsSpec : ChangeSpec := { name := "faresKeeps", fn := fun _ => fun
  | [d1, d2] => { results := [.lit (.bool true)], args := [d1, d2] }
  | _ => none }
def faresKeepsRow : OpenClaim := { program := "ytnaogcpcaabbhaa", sum := "e3ddff8dcd899eab1fa7fa64d5a348888f9c39dac5c3936c2e87b60d9fcf58c6", func := "gangway/gangwaylaw26.FaresKeeps", spec := "faresKeeps", inPlace := ["math.Float64frombits", "math.RoundToEven", "math.Float64bits"], apart := false }
def FaresKeepsSaid : Prop := faresKeepsRow.holds Try.pinned (OpenSpec.ofChange faresKeepsSpec)

/-- ITS FALSE NEIGHBOUR: 'it returns false'. Refute it at one input. -/
def faresKeepsWrong : ChangeSpec := { name := "faresKeeps", fn := fun _ => fun
  | [d1, d2] => { results := [.lit (.bool false)], args := [d1, d2] }
  | _ => none }
def FaresKeepsWrongFalsely : Prop := faresKeepsRow.holds Try.pinned (OpenSpec.ofChange faresKeepsWrong)

/- THE SECOND FORM. 'bulk': how many values and letters a reading holds, each counted each time it is reached (what is shared counts as often as it is met; a slice's spare places count too). A statement '..UptoSaid' is the law's where the arguments, and the package variables that the reading takes, are together of bulk at most 1048576: NARROWER than '..Said'. Prove '..Said' where nothing that the law and all that it calls make is longer than what came in: it says more and counts as full. Else prove '..UptoSaid'. A law counts once. -/
mutual
def uptoBulk {H : Type} : DataW H → Nat
  | .lit (.string bytes) => bytes.length + 1
  | .lit _ => 1
  | .nil => 1
  | .ptr d => uptoBulk d + 1
  | .slice elems spare => uptoBulkAll elems + uptoBulkAll spare + 1
  | .agg parts => uptoBulkAll parts + 1
  | .iface _ d => uptoBulk d + 1
  | .map entries => uptoBulkEntries entries + 1
  | .held _ => 1
def uptoBulkAll {H : Type} : List (DataW H) → Nat
  | [] => 0
  | d :: r => uptoBulk d + uptoBulkAll r
def uptoBulkEntries {H : Type} : List (Lit × DataW H) → Nat
  | [] => 0
  | x :: r => uptoBulkEntry x + uptoBulkEntries r
def uptoBulkEntry {H : Type} : Lit × DataW H → Nat
  | (.string bytes, d) => bytes.length + uptoBulk d + 1
  | (_, d) => uptoBulk d + 1
 end
def uptoSmall : (H : Type) → List (DataW H) → Bool := fun _ ds => decide (uptoBulkAll ds ≤ 1048576)
def OpenSpec.upto (s : _root_.Go.ChangeSpec) : _root_.Go.OpenSpec := { _root_.Go.OpenSpec.ofChange s with cond := some uptoSmall }

/-- 'gangwaylaw26.FaresTells', WHERE WHAT IT READS IS OF BULK AT MOST 1048576: true; the input reads as it did. -/
def faresTellsUptoRow : OpenClaim := { program := "ytnaogcpcaabbhaa", sum := "e3ddff8dcd899eab1fa7fa64d5a348888f9c39dac5c3936c2e87b60d9fcf58c6", func := "gangway/gangwaylaw26.FaresTells", spec := "faresTells", inPlace := ["math.Float64frombits", "math.RoundToEven", "math.Float64bits"], apart := false, narrowed := true }
def FaresTellsUptoSaid : Prop := faresTellsUptoRow.holds Try.pinned (OpenSpec.upto faresTellsSpec)

/-- 'gangwaylaw26.FaresUnits', WHERE WHAT IT READS IS OF BULK AT MOST 1048576: true; the input reads as it did. -/
def faresUnitsUptoRow : OpenClaim := { program := "ytnaogcpcaabbhaa", sum := "e3ddff8dcd899eab1fa7fa64d5a348888f9c39dac5c3936c2e87b60d9fcf58c6", func := "gangway/gangwaylaw26.FaresUnits", spec := "faresUnits", inPlace := ["math.Float64frombits", "math.RoundToEven", "math.Float64bits"], apart := false, narrowed := true }
def FaresUnitsUptoSaid : Prop := faresUnitsUptoRow.holds Try.pinned (OpenSpec.upto faresUnitsSpec)

/-- 'gangwaylaw26.FaresHope', WHERE WHAT IT READS IS OF BULK AT MOST 1048576: true; the input reads as it did. -/
def faresHopeUptoRow : OpenClaim := { program := "ytnaogcpcaabbhaa", sum := "e3ddff8dcd899eab1fa7fa64d5a348888f9c39dac5c3936c2e87b60d9fcf58c6", func := "gangway/gangwaylaw26.FaresHope", spec := "faresHope", inPlace := ["math.Float64frombits", "math.RoundToEven", "math.Float64bits"], recurses := true, apart := false, narrowed := true }
def FaresHopeUptoSaid : Prop := faresHopeUptoRow.holds Try.pinned (OpenSpec.upto faresHopeSpec)

/-- 'gangwaylaw26.FaresSure', WHERE WHAT IT READS IS OF BULK AT MOST 1048576: true; the input reads as it did. -/
def faresSureUptoRow : OpenClaim := { program := "ytnaogcpcaabbhaa", sum := "e3ddff8dcd899eab1fa7fa64d5a348888f9c39dac5c3936c2e87b60d9fcf58c6", func := "gangway/gangwaylaw26.FaresSure", spec := "faresSure", inPlace := ["math.Float64frombits", "math.RoundToEven", "math.Float64bits"], apart := false, narrowed := true }
def FaresSureUptoSaid : Prop := faresSureUptoRow.holds Try.pinned (OpenSpec.upto faresSureSpec)

/-- 'gangwaylaw26.FaresAhead', WHERE WHAT IT READS IS OF BULK AT MOST 1048576: true; the input reads as it did. -/
def faresAheadUptoRow : OpenClaim := { program := "ytnaogcpcaabbhaa", sum := "e3ddff8dcd899eab1fa7fa64d5a348888f9c39dac5c3936c2e87b60d9fcf58c6", func := "gangway/gangwaylaw26.FaresAhead", spec := "faresAhead", inPlace := ["math.Float64frombits", "math.RoundToEven", "math.Float64bits"], apart := false, narrowed := true }
def FaresAheadUptoSaid : Prop := faresAheadUptoRow.holds Try.pinned (OpenSpec.upto faresAheadSpec)

/-- 'gangwaylaw26.FaresKeeps', WHERE WHAT IT READS IS OF BULK AT MOST 1048576: true; the input reads as it did. -/
def faresKeepsUptoRow : OpenClaim := { program := "ytnaogcpcaabbhaa", sum := "e3ddff8dcd899eab1fa7fa64d5a348888f9c39dac5c3936c2e87b60d9fcf58c6", func := "gangway/gangwaylaw26.FaresKeeps", spec := "faresKeeps", inPlace := ["math.Float64frombits", "math.RoundToEven", "math.Float64bits"], apart := false, narrowed := true }
def FaresKeepsUptoSaid : Prop := faresKeepsUptoRow.holds Try.pinned (OpenSpec.upto faresKeepsSpec)

end Rows
end Go.Proofs.Ytnaogcpcaabbhaa
