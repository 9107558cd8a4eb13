/-
  No cell of these rows narrows 'for every input' (looked for: loops, veiled, ifaces, maps, wideKeys, modest, calm, conditions, laid).
  DERIVED. THE GIVEN ROWS OF THIS SEAT. 9 by the template 'for every input the law returns true; each argument reads behind the call as it read before'; 0 by the template 'total and deterministic' (their statements: YtkabnaemchgeeaaTotals.lean).
  GIVEN WITH THE SEED: the statements are not yours to turn. If you find one false, say at which input.
  Laid BY PROGRAM, IN A SANDBOX (cutbox-rows.mjs): the forced cells as the released guide's own fill.sh prints them over the translation bbf95ec9bfecfb5d… (all of the seat's roots in one cut). By AI agents, Wed Nov 11 2026. No macro, syntax, notation, axiom, sorry.
-/
import Derived.Test.YtkabnaemchgeeaaChecked
import GoSem.Claim
import GoSem.ClaimJoined
import GoSem.ClaimMapViews
import Derived.JoinedTies
import Derived.KernelRfl
namespace Go.Proofs.Ytkabnaemchgeeaa
/- THE CELL 'sum', in the pinned program and in every row, IS THE sha256 OF THE DUMP (.gsa) THAT YtkabnaemchgeeaaProg.lean LOADS. Nothing in Lean hashes anything: it is a label: what it is worth is what the hold of that sum in a sandbox is worth. -/
noncomputable def Try.pinned : Pinned := { name := "ytkabnaemchgeeaa", sum := "bbf95ec9bfecfb5d149f1ad120498a26a4cb6c08190c6f31252a61df260d34b5", checked := Try.checked }
namespace Rows
def none {H : Type} : Left H := { results := [], args := [] }

/-- 'gangwaylaw25.OddsLimits': WHATEVER THE INPUT: true; the input reads as it did. -/
def oddsLimitsSpec : ChangeSpec := { name := "oddsLimits", fn := fun _ => fun
  | [d1, d2, d3] => { results := [.lit (.bool true)], args := [d1, d2, d3] }
  | _ => none }
def oddsLimitsRow : OpenClaim := { program := "ytkabnaemchgeeaa", sum := "bbf95ec9bfecfb5d149f1ad120498a26a4cb6c08190c6f31252a61df260d34b5", func := "gangway/gangwaylaw25.OddsLimits", spec := "oddsLimits", inPlace := ["math.RoundToEven", "math.Float64bits"], apart := false }
def OddsLimitsSaid : Prop := oddsLimitsRow.holds Try.pinned (OpenSpec.ofChange oddsLimitsSpec)

/-- ITS FALSE NEIGHBOUR: 'it returns false'. Refute it at one input. -/
def oddsLimitsWrong : ChangeSpec := { name := "oddsLimits", fn := fun _ => fun
  | [d1, d2, d3] => { results := [.lit (.bool false)], args := [d1, d2, d3] }
  | _ => none }
def OddsLimitsWrongFalsely : Prop := oddsLimitsRow.holds Try.pinned (OpenSpec.ofChange oddsLimitsWrong)

/-- 'gangwaylaw25.OddsRows': WHATEVER THE INPUT: true; the input reads as it did. -/
def oddsRowsSpec : ChangeSpec := { name := "oddsRows", fn := fun _ => fun
  | [d1, d2] => { results := [.lit (.bool true)], args := [d1, d2] }
  | _ => none }
def oddsRowsRow : OpenClaim := { program := "ytkabnaemchgeeaa", sum := "bbf95ec9bfecfb5d149f1ad120498a26a4cb6c08190c6f31252a61df260d34b5", func := "gangway/gangwaylaw25.OddsRows", spec := "oddsRows", inPlace := ["math.RoundToEven", "math.Float64bits"], apart := false }
def OddsRowsSaid : Prop := oddsRowsRow.holds Try.pinned (OpenSpec.ofChange oddsRowsSpec)

/-- ITS FALSE NEIGHBOUR: 'it returns false'. Refute it at one input. -/
def oddsRowsWrong : ChangeSpec := { name := "oddsRows", fn := fun _ => fun
  | [d1, d2] => { results := [.lit (.bool false)], args := [d1, d2] }
  | _ => none }
def OddsRowsWrongFalsely : Prop := oddsRowsRow.holds Try.pinned (OpenSpec.ofChange oddsRowsWrong)

/-- 'gangwaylaw25.OddsExact': WHATEVER THE INPUT: true; the input reads as it did. -/
def oddsExactSpec : ChangeSpec := { name := "oddsExact", fn := fun _ => fun
  | [d] => { results := [.lit (.bool true)], args := [d] }
  | _ => none }
def oddsExactRow : OpenClaim := { program := "ytkabnaemchgeeaa", sum := "bbf95ec9bfecfb5d149f1ad120498a26a4cb6c08190c6f31252a61df260d34b5", func := "gangway/gangwaylaw25.OddsExact", spec := "oddsExact", inPlace := ["math.RoundToEven", "math.Float64bits"], apart := false }
def OddsExactSaid : Prop := oddsExactRow.holds Try.pinned (OpenSpec.ofChange oddsExactSpec)

/-- ITS FALSE NEIGHBOUR: 'it returns false'. Refute it at one input. -/
def oddsExactWrong : ChangeSpec := { name := "oddsExact", fn := fun _ => fun
  | [d] => { results := [.lit (.bool false)], args := [d] }
  | _ => none }
def OddsExactWrongFalsely : Prop := oddsExactRow.holds Try.pinned (OpenSpec.ofChange oddsExactWrong)

/-- 'gangwaylaw25.OddsNear': WHATEVER THE INPUT: true; the input reads as it did. -/
def oddsNearSpec : ChangeSpec := { name := "oddsNear", fn := fun _ => fun
  | [d] => { results := [.lit (.bool true)], args := [d] }
  | _ => none }
def oddsNearRow : OpenClaim := { program := "ytkabnaemchgeeaa", sum := "bbf95ec9bfecfb5d149f1ad120498a26a4cb6c08190c6f31252a61df260d34b5", func := "gangway/gangwaylaw25.OddsNear", spec := "oddsNear", inPlace := ["math.RoundToEven", "math.Float64bits"], apart := false }
def OddsNearSaid : Prop := oddsNearRow.holds Try.pinned (OpenSpec.ofChange oddsNearSpec)

/-- ITS FALSE NEIGHBOUR: 'it returns false'. Refute it at one input. -/
def oddsNearWrong : ChangeSpec := { name := "oddsNear", fn := fun _ => fun
  | [d] => { results := [.lit (.bool false)], args := [d] }
  | _ => none }
def OddsNearWrongFalsely : Prop := oddsNearRow.holds Try.pinned (OpenSpec.ofChange oddsNearWrong)

/-- 'gangwaylaw25.OddsSpares': WHATEVER THE INPUT: true; the input reads as it did. -/
def oddsSparesSpec : ChangeSpec := { name := "oddsSpares", fn := fun _ => fun
  | [d1, d2] => { results := [.lit (.bool true)], args := [d1, d2] }
  | _ => none }
def oddsSparesRow : OpenClaim := { program := "ytkabnaemchgeeaa", sum := "bbf95ec9bfecfb5d149f1ad120498a26a4cb6c08190c6f31252a61df260d34b5", func := "gangway/gangwaylaw25.OddsSpares", spec := "oddsSpares", inPlace := ["math.Float64bits", "math.RoundToEven"], apart := false }
def OddsSparesSaid : Prop := oddsSparesRow.holds Try.pinned (OpenSpec.ofChange oddsSparesSpec)

/-- ITS FALSE NEIGHBOUR: 'it returns false'. Refute it at one input. -/
def oddsSparesWrong : ChangeSpec := { name := "oddsSpares", fn := fun _ => fun
  | [d1, d2] => { results := [.lit (.bool false)], args := [d1, d2] }
  | _ => none }
def OddsSparesWrongFalsely : Prop := oddsSparesRow.holds Try.pinned (OpenSpec.ofChange oddsSparesWrong)

/-- 'gangwaylaw25.OddsShows': WHATEVER THE INPUT: true; the input reads as it did. -/
def oddsShowsSpec : ChangeSpec := { name := "oddsShows", fn := fun _ => fun
  | [d1, d2, d3] => { results := [.lit (.bool true)], args := [d1, d2, d3] }
  | _ => none }
def oddsShowsRow : OpenClaim := { program := "ytkabnaemchgeeaa", sum := "bbf95ec9bfecfb5d149f1ad120498a26a4cb6c08190c6f31252a61df260d34b5", func := "gangway/gangwaylaw25.OddsShows", spec := "oddsShows", inPlace := ["math.Float64bits", "math.RoundToEven"], apart := false }
def OddsShowsSaid : Prop := oddsShowsRow.holds Try.pinned (OpenSpec.ofChange oddsShowsSpec)

/-- ITS FALSE NEIGHBOUR: 'it returns false'. Refute it at one input. -/
def oddsShowsWrong : ChangeSpec := { name := "oddsShows", fn := fun _ => fun
  | [d1, d2, d3] => { results := [.lit (.bool false)], args := [d1, d2, d3] }
  | _ => none }
def OddsShowsWrongFalsely : Prop := oddsShowsRow.holds Try.pinned (OpenSpec.ofChange oddsShowsWrong)

/-- 'gangwaylaw25.OddsLimit': WHATEVER THE INPUT: true; the input reads as it did. -/
def oddsLimitSpec : ChangeSpec := { name := "oddsLimit", fn := fun _ => fun
  | [d1, d2, d3] => { results := [.lit (.bool true)], args := [d1, d2, d3] }
  | _ => none }
def oddsLimitRow : OpenClaim := { program := "ytkabnaemchgeeaa", sum := "bbf95ec9bfecfb5d149f1ad120498a26a4cb6c08190c6f31252a61df260d34b5", func := "gangway/gangwaylaw25.OddsLimit", spec := "oddsLimit", inPlace := ["math.RoundToEven", "math.Float64bits"], apart := false }
def OddsLimitSaid : Prop := oddsLimitRow.holds Try.pinned (OpenSpec.ofChange oddsLimitSpec)

/-- ITS FALSE NEIGHBOUR: 'it returns false'. Refute it at one input. -/
def oddsLimitWrong : ChangeSpec := { name := "oddsLimit", fn := fun _ => fun
  | [d1, d2, d3] => { results := [.lit (.bool false)], args := [d1, d2, d3] }
  | _ => none }
def OddsLimitWrongFalsely : Prop := oddsLimitRow.holds Try.pinned (OpenSpec.ofChange oddsLimitWrong)

/-- 'gangwaylaw25.OddsNumbers': WHATEVER THE INPUT: true; the input reads as it did. -/
def oddsNumbersSpec : ChangeSpec := { name := "oddsNumbers", fn := fun _ => fun
  | [] => { results := [.lit (.bool true)], args := [] }
  | _ => none }
def oddsNumbersRow : OpenClaim := { program := "ytkabnaemchgeeaa", sum := "bbf95ec9bfecfb5d149f1ad120498a26a4cb6c08190c6f31252a61df260d34b5", func := "gangway/gangwaylaw25.OddsNumbers", spec := "oddsNumbers", inPlace := ["math.Float64frombits", "math.RoundToEven", "math.Float64bits"], apart := false }
def OddsNumbersSaid : Prop := oddsNumbersRow.holds Try.pinned (OpenSpec.ofChange oddsNumbersSpec)

/-- ITS FALSE NEIGHBOUR: 'it returns false'. Refute it at one input. -/
def oddsNumbersWrong : ChangeSpec := { name := "oddsNumbers", fn := fun _ => fun
  | [] => { results := [.lit (.bool false)], args := [] }
  | _ => none }
def OddsNumbersWrongFalsely : Prop := oddsNumbersRow.holds Try.pinned (OpenSpec.ofChange oddsNumbersWrong)

/-- 'gangwaylaw25.OddsNearest': WHATEVER THE INPUT: true; the input reads as it did. -/
def oddsNearestSpec : ChangeSpec := { name := "oddsNearest", fn := fun _ => fun
  | [d1, d2] => { results := [.lit (.bool true)], args := [d1, d2] }
  | _ => none }
def oddsNearestRow : OpenClaim := { program := "ytkabnaemchgeeaa", sum := "bbf95ec9bfecfb5d149f1ad120498a26a4cb6c08190c6f31252a61df260d34b5", func := "gangway/gangwaylaw25.OddsNearest", spec := "oddsNearest", inPlace := ["math.Float64frombits", "math.Float64bits", "math.RoundToEven"], apart := false }
def OddsNearestSaid : Prop := oddsNearestRow.holds Try.pinned (OpenSpec.ofChange oddsNearestSpec)

/-- ITS FALSE NEIGHBOUR: 'it returns false'. Refute it at one input. -/
def oddsNearestWrong : ChangeSpec := { name := "oddsNearest", fn := fun _ => fun
  | [d1, d2] => { results := [.lit (.bool false)], args := [d1, d2] }
  | _ => none }
def OddsNearestWrongFalsely : Prop := oddsNearestRow.holds Try.pinned (OpenSpec.ofChange oddsNearestWrong)

/- THE SECOND FORM. 'bulk': how many values and letters a reading holds, each counted each time it is reached (what is shared counts as often as it is met; a slice's spare places count too). A statement '..UptoSaid' is the law's where the arguments, and the package variables that the reading takes, are together of bulk at most 1048576: NARROWER than '..Said'. Prove '..Said' where nothing that the law and all that it calls make is longer than what came in: it says more and counts as full. Else prove '..UptoSaid'. A law counts once. -/
mutual
def uptoBulk {H : Type} : DataW H → Nat
  | .lit (.string bytes) => bytes.length + 1
  | .lit _ => 1
  | .nil => 1
  | .ptr d => uptoBulk d + 1
  | .slice elems spare => uptoBulkAll elems + uptoBulkAll spare + 1
  | .agg parts => uptoBulkAll parts + 1
  | .iface _ d => uptoBulk d + 1
  | .map entries => uptoBulkEntries entries + 1
  | .held _ => 1
def uptoBulkAll {H : Type} : List (DataW H) → Nat
  | [] => 0
  | d :: r => uptoBulk d + uptoBulkAll r
def uptoBulkEntries {H : Type} : List (Lit × DataW H) → Nat
  | [] => 0
  | x :: r => uptoBulkEntry x + uptoBulkEntries r
def uptoBulkEntry {H : Type} : Lit × DataW H → Nat
  | (.string bytes, d) => bytes.length + uptoBulk d + 1
  | (_, d) => uptoBulk d + 1
 end
def uptoSmall : (H : Type) → List (DataW H) → Bool := fun _ ds => decide (uptoBulkAll ds ≤ 1048576)
def OpenSpec.upto (s : _root_.Go.ChangeSpec) : _root_.Go.OpenSpec := { _root_.Go.OpenSpec.ofChange s with cond := some uptoSmall }

/-- 'gangwaylaw25.OddsLimits', WHERE WHAT IT READS IS OF BULK AT MOST 1048576: true; the input reads as it did. -/
def oddsLimitsUptoRow : OpenClaim := { program := "ytkabnaemchgeeaa", sum := "bbf95ec9bfecfb5d149f1ad120498a26a4cb6c08190c6f31252a61df260d34b5", func := "gangway/gangwaylaw25.OddsLimits", spec := "oddsLimits", inPlace := ["math.RoundToEven", "math.Float64bits"], apart := false, narrowed := true }
def OddsLimitsUptoSaid : Prop := oddsLimitsUptoRow.holds Try.pinned (OpenSpec.upto oddsLimitsSpec)

/-- 'gangwaylaw25.OddsRows', WHERE WHAT IT READS IS OF BULK AT MOST 1048576: true; the input reads as it did. -/
def oddsRowsUptoRow : OpenClaim := { program := "ytkabnaemchgeeaa", sum := "bbf95ec9bfecfb5d149f1ad120498a26a4cb6c08190c6f31252a61df260d34b5", func := "gangway/gangwaylaw25.OddsRows", spec := "oddsRows", inPlace := ["math.RoundToEven", "math.Float64bits"], apart := false, narrowed := true }
def OddsRowsUptoSaid : Prop := oddsRowsUptoRow.holds Try.pinned (OpenSpec.upto oddsRowsSpec)

/-- 'gangwaylaw25.OddsExact', WHERE WHAT IT READS IS OF BULK AT MOST 1048576: true; the input reads as it did. -/
def oddsExactUptoRow : OpenClaim := { program := "ytkabnaemchgeeaa", sum := "bbf95ec9bfecfb5d149f1ad120498a26a4cb6c08190c6f31252a61df260d34b5", func := "gangway/gangwaylaw25.OddsExact", spec := "oddsExact", inPlace := ["math.RoundToEven", "math.Float64bits"], apart := false, narrowed := true }
def OddsExactUptoSaid : Prop := oddsExactUptoRow.holds Try.pinned (OpenSpec.upto oddsExactSpec)

/-- 'gangwaylaw25.OddsNear', WHERE WHAT IT READS IS OF BULK AT MOST 1048576: true; the input reads as it did. -/
def oddsNearUptoRow : OpenClaim := { program := "ytkabnaemchgeeaa", sum := "bbf95ec9bfecfb5d149f1ad120498a26a4cb6c08190c6f31252a61df260d34b5", func := "gangway/gangwaylaw25.OddsNear", spec := "oddsNear", inPlace := ["math.RoundToEven", "math.Float64bits"], apart := false, narrowed := true }
def OddsNearUptoSaid : Prop := oddsNearUptoRow.holds Try.pinned (OpenSpec.upto oddsNearSpec)

/-- 'gangwaylaw25.OddsSpares', WHERE WHAT IT READS IS OF BULK AT MOST 1048576: true; the input reads as it did. -/
def oddsSparesUptoRow : OpenClaim := { program := "ytkabnaemchgeeaa", sum := "bbf95ec9bfecfb5d149f1ad120498a26a4cb6c08190c6f31252a61df260d34b5", func := "gangway/gangwaylaw25.OddsSpares", spec := "oddsSpares", inPlace := ["math.Float64bits", "math.RoundToEven"], apart := false, narrowed := true }
def OddsSparesUptoSaid : Prop := oddsSparesUptoRow.holds Try.pinned (OpenSpec.upto oddsSparesSpec)

/-- 'gangwaylaw25.OddsShows', WHERE WHAT IT READS IS OF BULK AT MOST 1048576: true; the input reads as it did. -/
def oddsShowsUptoRow : OpenClaim := { program := "ytkabnaemchgeeaa", sum := "bbf95ec9bfecfb5d149f1ad120498a26a4cb6c08190c6f31252a61df260d34b5", func := "gangway/gangwaylaw25.OddsShows", spec := "oddsShows", inPlace := ["math.Float64bits", "math.RoundToEven"], apart := false, narrowed := true }
def OddsShowsUptoSaid : Prop := oddsShowsUptoRow.holds Try.pinned (OpenSpec.upto oddsShowsSpec)

/-- 'gangwaylaw25.OddsLimit', WHERE WHAT IT READS IS OF BULK AT MOST 1048576: true; the input reads as it did. -/
def oddsLimitUptoRow : OpenClaim := { program := "ytkabnaemchgeeaa", sum := "bbf95ec9bfecfb5d149f1ad120498a26a4cb6c08190c6f31252a61df260d34b5", func := "gangway/gangwaylaw25.OddsLimit", spec := "oddsLimit", inPlace := ["math.RoundToEven", "math.Float64bits"], apart := false, narrowed := true }
def OddsLimitUptoSaid : Prop := oddsLimitUptoRow.holds Try.pinned (OpenSpec.upto oddsLimitSpec)

/-- 'gangwaylaw25.OddsNumbers', WHERE WHAT IT READS IS OF BULK AT MOST 1048576: true; the input reads as it did. -/
def oddsNumbersUptoRow : OpenClaim := { program := "ytkabnaemchgeeaa", sum := "bbf95ec9bfecfb5d149f1ad120498a26a4cb6c08190c6f31252a61df260d34b5", func := "gangway/gangwaylaw25.OddsNumbers", spec := "oddsNumbers", inPlace := ["math.Float64frombits", "math.RoundToEven", "math.Float64bits"], apart := false, narrowed := true }
def OddsNumbersUptoSaid : Prop := oddsNumbersUptoRow.holds Try.pinned (OpenSpec.upto oddsNumbersSpec)

/-- 'gangwaylaw25.OddsNearest', WHERE WHAT IT READS IS OF BULK AT MOST 1048576: true; the input reads as it did. -/
def oddsNearestUptoRow : OpenClaim := { program := "ytkabnaemchgeeaa", sum := "bbf95ec9bfecfb5d149f1ad120498a26a4cb6c08190c6f31252a61df260d34b5", func := "gangway/gangwaylaw25.OddsNearest", spec := "oddsNearest", inPlace := ["math.Float64frombits", "math.Float64bits", "math.RoundToEven"], apart := false, narrowed := true }
def OddsNearestUptoSaid : Prop := oddsNearestUptoRow.holds Try.pinned (OpenSpec.upto oddsNearestSpec)

end Rows
end Go.Proofs.Ytkabnaemchgeeaa
