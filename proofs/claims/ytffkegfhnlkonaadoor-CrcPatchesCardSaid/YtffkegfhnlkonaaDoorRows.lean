/-
  NARROWER THAN 'FOR EVERY INPUT', by the rows' own cells (each row's printed sentence says how): CrcSums: laid · CrcJoins: laid · CrcPatches: laid · CrcNumbers: laid · CrcAlong: laid · CrcTells: laid · CrcMends: laid · CrcLinear: laid.
  DERIVED. THE GIVEN ROWS OF THIS SEAT. 8 by the template 'for every input the law returns true; each argument reads behind the call as it read before'; 0 by the template 'total and deterministic' (their statements: YtffkegfhnlkonaaDoorTotals.lean).
  GIVEN WITH THE SEED: the statements are not yours to turn. If you find one false, say at which input.
  Laid BY PROGRAM, IN A SANDBOX (cutbox-rows.mjs): the forced cells as the released guide's own fill.sh prints them over the translation cc64a30ff098151b… (all of the seat's roots in one cut). By AI agents, Wed Nov 11 2026. No macro, syntax, notation, axiom, sorry.
-/
import Derived.Test.YtffkegfhnlkonaaDoorChecked
import GoSem.Claim
import GoSem.ClaimJoined
import GoSem.ClaimMapViews
import Derived.JoinedTies
import Derived.KernelRfl
namespace Go.Proofs.YtffkegfhnlkonaaDoor
/- THE CELL 'sum', in the pinned program and in every row, IS THE sha256 OF THE DUMP (.gsa) THAT YtffkegfhnlkonaaDoorProg.lean LOADS. Nothing in Lean hashes anything: it is a label: what it is worth is what the hold of that sum in a sandbox is worth. -/
noncomputable def Tryd.pinned : Pinned := { name := "ytffkegfhnlkonaadoor", sum := "cc64a30ff098151bb3dc5ee1e10a958a14fb392beed026093340f61e696e1ddc", checked := Tryd.checked }
namespace Rows
def none {H : Type} : Left H := { results := [], args := [] }

/- WHAT THE LISTED PACKAGE-LEVEL VARIABLES READ AS WHEN THE CALL BEGINS. Each datum BY PROGRAM (the guide's laid-datum.mjs) off the statement by which the dump's own 'gosem.cut.vars' lays the variable. In a bare row this is a premise. The card (YtffkegfhnlkonaaDoorCards.lean) ties it to the program's text. -/
def laid_gangway_crc_table {H : Type} : DataW H := .agg [.lit (.int .u32 0), .lit (.int .u32 498536548), .lit (.int .u32 997073096), .lit (.int .u32 651767980), .lit (.int .u32 1994146192), .lit (.int .u32 1802195444), .lit (.int .u32 1303535960), .lit (.int .u32 1342533948), .lit (.int .u32 3988292384), .lit (.int .u32 4027552580), .lit (.int .u32 3604390888), .lit (.int .u32 3412177804), .lit (.int .u32 2607071920), .lit (.int .u32 2262029012), .lit (.int .u32 2685067896), .lit (.int .u32 3183342108)]

/-- 'gangwaylaw03.CrcSums': WHATEVER THE INPUT: true; the input reads as it did. -/
def crcSumsSpec : ChangeSpec := { name := "crcSums", fn := fun _ => fun
  | [d1, d2, d3] => { results := [.lit (.bool true)], args := [d1, d2, d3] }
  | _ => none }
def crcSumsRow : OpenClaim := { program := "ytffkegfhnlkonaadoor", sum := "cc64a30ff098151bb3dc5ee1e10a958a14fb392beed026093340f61e696e1ddc", func := "gangway/gangwaylaw03.CrcSums", spec := "crcSums", named := ["gangway/crc.table"], apart := false, laid := [("gangway/crc.table", laid_gangway_crc_table)] }
def CrcSumsSaid : Prop := crcSumsRow.holds Tryd.pinned (OpenSpec.ofChange crcSumsSpec)

/-- ITS FALSE NEIGHBOUR: 'it returns false'. Refute it at one input. -/
def crcSumsWrong : ChangeSpec := { name := "crcSums", fn := fun _ => fun
  | [d1, d2, d3] => { results := [.lit (.bool false)], args := [d1, d2, d3] }
  | _ => none }
def CrcSumsWrongFalsely : Prop := crcSumsRow.holds Tryd.pinned (OpenSpec.ofChange crcSumsWrong)

/-- 'gangwaylaw03.CrcJoins': WHATEVER THE INPUT: true; the input reads as it did. -/
def crcJoinsSpec : ChangeSpec := { name := "crcJoins", fn := fun _ => fun
  | [d1, d2, d3] => { results := [.lit (.bool true)], args := [d1, d2, d3] }
  | _ => none }
def crcJoinsRow : OpenClaim := { program := "ytffkegfhnlkonaadoor", sum := "cc64a30ff098151bb3dc5ee1e10a958a14fb392beed026093340f61e696e1ddc", func := "gangway/gangwaylaw03.CrcJoins", spec := "crcJoins", named := ["gangway/crc.table"], apart := false, laid := [("gangway/crc.table", laid_gangway_crc_table)] }
def CrcJoinsSaid : Prop := crcJoinsRow.holds Tryd.pinned (OpenSpec.ofChange crcJoinsSpec)

/-- ITS FALSE NEIGHBOUR: 'it returns false'. Refute it at one input. -/
def crcJoinsWrong : ChangeSpec := { name := "crcJoins", fn := fun _ => fun
  | [d1, d2, d3] => { results := [.lit (.bool false)], args := [d1, d2, d3] }
  | _ => none }
def CrcJoinsWrongFalsely : Prop := crcJoinsRow.holds Tryd.pinned (OpenSpec.ofChange crcJoinsWrong)

/-- 'gangwaylaw03.CrcPatches': WHATEVER THE INPUT: true; the input reads as it did. -/
def crcPatchesSpec : ChangeSpec := { name := "crcPatches", fn := fun _ => fun
  | [d1, d2, d3] => { results := [.lit (.bool true)], args := [d1, d2, d3] }
  | _ => none }
def crcPatchesRow : OpenClaim := { program := "ytffkegfhnlkonaadoor", sum := "cc64a30ff098151bb3dc5ee1e10a958a14fb392beed026093340f61e696e1ddc", func := "gangway/gangwaylaw03.CrcPatches", spec := "crcPatches", named := ["gangway/crc.table"], apart := false, laid := [("gangway/crc.table", laid_gangway_crc_table)] }
def CrcPatchesSaid : Prop := crcPatchesRow.holds Tryd.pinned (OpenSpec.ofChange crcPatchesSpec)

/-- ITS FALSE NEIGHBOUR: 'it returns false'. Refute it at one input. -/
def crcPatchesWrong : ChangeSpec := { name := "crcPatches", fn := fun _ => fun
  | [d1, d2, d3] => { results := [.lit (.bool false)], args := [d1, d2, d3] }
  | _ => none }
def CrcPatchesWrongFalsely : Prop := crcPatchesRow.holds Tryd.pinned (OpenSpec.ofChange crcPatchesWrong)

/-- 'gangwaylaw03.CrcNumbers': WHATEVER THE INPUT: true; the input reads as it did. -/
def crcNumbersSpec : ChangeSpec := { name := "crcNumbers", fn := fun _ => fun
  | [] => { results := [.lit (.bool true)], args := [] }
  | _ => none }
def crcNumbersRow : OpenClaim := { program := "ytffkegfhnlkonaadoor", sum := "cc64a30ff098151bb3dc5ee1e10a958a14fb392beed026093340f61e696e1ddc", func := "gangway/gangwaylaw03.CrcNumbers", spec := "crcNumbers", named := ["gangway/crc.table"], apart := false, laid := [("gangway/crc.table", laid_gangway_crc_table)] }
def CrcNumbersSaid : Prop := crcNumbersRow.holds Tryd.pinned (OpenSpec.ofChange crcNumbersSpec)

/-- ITS FALSE NEIGHBOUR: 'it returns false'. Refute it at one input. -/
def crcNumbersWrong : ChangeSpec := { name := "crcNumbers", fn := fun _ => fun
  | [] => { results := [.lit (.bool false)], args := [] }
  | _ => none }
def CrcNumbersWrongFalsely : Prop := crcNumbersRow.holds Tryd.pinned (OpenSpec.ofChange crcNumbersWrong)

/-- 'gangwaylaw03.CrcAlong': WHATEVER THE INPUT: true; the input reads as it did. -/
def crcAlongSpec : ChangeSpec := { name := "crcAlong", fn := fun _ => fun
  | [d1, d2] => { results := [.lit (.bool true)], args := [d1, d2] }
  | _ => none }
def crcAlongRow : OpenClaim := { program := "ytffkegfhnlkonaadoor", sum := "cc64a30ff098151bb3dc5ee1e10a958a14fb392beed026093340f61e696e1ddc", func := "gangway/gangwaylaw03.CrcAlong", spec := "crcAlong", named := ["gangway/crc.table"], apart := false, laid := [("gangway/crc.table", laid_gangway_crc_table)] }
def CrcAlongSaid : Prop := crcAlongRow.holds Tryd.pinned (OpenSpec.ofChange crcAlongSpec)

/-- ITS FALSE NEIGHBOUR: 'it returns false'. Refute it at one input. -/
def crcAlongWrong : ChangeSpec := { name := "crcAlong", fn := fun _ => fun
  | [d1, d2] => { results := [.lit (.bool false)], args := [d1, d2] }
  | _ => none }
def CrcAlongWrongFalsely : Prop := crcAlongRow.holds Tryd.pinned (OpenSpec.ofChange crcAlongWrong)

/-- 'gangwaylaw03.CrcTells': WHATEVER THE INPUT: true; the input reads as it did. -/
def crcTellsSpec : ChangeSpec := { name := "crcTells", fn := fun _ => fun
  | [d1, d2, d3] => { results := [.lit (.bool true)], args := [d1, d2, d3] }
  | _ => none }
def crcTellsRow : OpenClaim := { program := "ytffkegfhnlkonaadoor", sum := "cc64a30ff098151bb3dc5ee1e10a958a14fb392beed026093340f61e696e1ddc", func := "gangway/gangwaylaw03.CrcTells", spec := "crcTells", named := ["gangway/crc.table"], apart := false, laid := [("gangway/crc.table", laid_gangway_crc_table)] }
def CrcTellsSaid : Prop := crcTellsRow.holds Tryd.pinned (OpenSpec.ofChange crcTellsSpec)

/-- ITS FALSE NEIGHBOUR: 'it returns false'. Refute it at one input. -/
def crcTellsWrong : ChangeSpec := { name := "crcTells", fn := fun _ => fun
  | [d1, d2, d3] => { results := [.lit (.bool false)], args := [d1, d2, d3] }
  | _ => none }
def CrcTellsWrongFalsely : Prop := crcTellsRow.holds Tryd.pinned (OpenSpec.ofChange crcTellsWrong)

/-- 'gangwaylaw03.CrcMends': WHATEVER THE INPUT: true; the input reads as it did. -/
def crcMendsSpec : ChangeSpec := { name := "crcMends", fn := fun _ => fun
  | [d1, d2, d3] => { results := [.lit (.bool true)], args := [d1, d2, d3] }
  | _ => none }
def crcMendsRow : OpenClaim := { program := "ytffkegfhnlkonaadoor", sum := "cc64a30ff098151bb3dc5ee1e10a958a14fb392beed026093340f61e696e1ddc", func := "gangway/gangwaylaw03.CrcMends", spec := "crcMends", named := ["gangway/crc.table"], apart := false, laid := [("gangway/crc.table", laid_gangway_crc_table)] }
def CrcMendsSaid : Prop := crcMendsRow.holds Tryd.pinned (OpenSpec.ofChange crcMendsSpec)

/-- ITS FALSE NEIGHBOUR: 'it returns false'. Refute it at one input. -/
def crcMendsWrong : ChangeSpec := { name := "crcMends", fn := fun _ => fun
  | [d1, d2, d3] => { results := [.lit (.bool false)], args := [d1, d2, d3] }
  | _ => none }
def CrcMendsWrongFalsely : Prop := crcMendsRow.holds Tryd.pinned (OpenSpec.ofChange crcMendsWrong)

/-- 'gangwaylaw03.CrcLinear': WHATEVER THE INPUT: true; the input reads as it did. -/
def crcLinearSpec : ChangeSpec := { name := "crcLinear", fn := fun _ => fun
  | [d1, d2, d3] => { results := [.lit (.bool true)], args := [d1, d2, d3] }
  | _ => none }
def crcLinearRow : OpenClaim := { program := "ytffkegfhnlkonaadoor", sum := "cc64a30ff098151bb3dc5ee1e10a958a14fb392beed026093340f61e696e1ddc", func := "gangway/gangwaylaw03.CrcLinear", spec := "crcLinear", named := ["gangway/crc.table"], apart := false, laid := [("gangway/crc.table", laid_gangway_crc_table)] }
def CrcLinearSaid : Prop := crcLinearRow.holds Tryd.pinned (OpenSpec.ofChange crcLinearSpec)

/-- ITS FALSE NEIGHBOUR: 'it returns false'. Refute it at one input. -/
def crcLinearWrong : ChangeSpec := { name := "crcLinear", fn := fun _ => fun
  | [d1, d2, d3] => { results := [.lit (.bool false)], args := [d1, d2, d3] }
  | _ => none }
def CrcLinearWrongFalsely : Prop := crcLinearRow.holds Tryd.pinned (OpenSpec.ofChange crcLinearWrong)

/- THE SECOND FORM. 'bulk': how many values and letters a reading holds, each counted each time it is reached (what is shared counts as often as it is met; a slice's spare places count too). A statement '..UptoSaid' is the law's where the arguments, and the package variables that the reading takes, are together of bulk at most 1048576: NARROWER than '..Said'. Prove '..Said' where nothing that the law and all that it calls make is longer than what came in: it says more and counts as full. Else prove '..UptoSaid'. A law counts once. -/
mutual
def uptoBulk {H : Type} : DataW H → Nat
  | .lit (.string bytes) => bytes.length + 1
  | .lit _ => 1
  | .nil => 1
  | .ptr d => uptoBulk d + 1
  | .slice elems spare => uptoBulkAll elems + uptoBulkAll spare + 1
  | .agg parts => uptoBulkAll parts + 1
  | .iface _ d => uptoBulk d + 1
  | .map entries => uptoBulkEntries entries + 1
  | .held _ => 1
def uptoBulkAll {H : Type} : List (DataW H) → Nat
  | [] => 0
  | d :: r => uptoBulk d + uptoBulkAll r
def uptoBulkEntries {H : Type} : List (Lit × DataW H) → Nat
  | [] => 0
  | x :: r => uptoBulkEntry x + uptoBulkEntries r
def uptoBulkEntry {H : Type} : Lit × DataW H → Nat
  | (.string bytes, d) => bytes.length + uptoBulk d + 1
  | (_, d) => uptoBulk d + 1
 end
def uptoSmall : (H : Type) → List (DataW H) → Bool := fun _ ds => decide (uptoBulkAll ds ≤ 1048576)
def OpenSpec.upto (s : _root_.Go.ChangeSpec) : _root_.Go.OpenSpec := { _root_.Go.OpenSpec.ofChange s with cond := some uptoSmall }

/-- 'gangwaylaw03.CrcSums', WHERE WHAT IT READS IS OF BULK AT MOST 1048576: true; the input reads as it did. -/
def crcSumsUptoRow : OpenClaim := { program := "ytffkegfhnlkonaadoor", sum := "cc64a30ff098151bb3dc5ee1e10a958a14fb392beed026093340f61e696e1ddc", func := "gangway/gangwaylaw03.CrcSums", spec := "crcSums", named := ["gangway/crc.table"], apart := false, laid := [("gangway/crc.table", laid_gangway_crc_table)], narrowed := true }
def CrcSumsUptoSaid : Prop := crcSumsUptoRow.holds Tryd.pinned (OpenSpec.upto crcSumsSpec)

/-- 'gangwaylaw03.CrcJoins', WHERE WHAT IT READS IS OF BULK AT MOST 1048576: true; the input reads as it did. -/
def crcJoinsUptoRow : OpenClaim := { program := "ytffkegfhnlkonaadoor", sum := "cc64a30ff098151bb3dc5ee1e10a958a14fb392beed026093340f61e696e1ddc", func := "gangway/gangwaylaw03.CrcJoins", spec := "crcJoins", named := ["gangway/crc.table"], apart := false, laid := [("gangway/crc.table", laid_gangway_crc_table)], narrowed := true }
def CrcJoinsUptoSaid : Prop := crcJoinsUptoRow.holds Tryd.pinned (OpenSpec.upto crcJoinsSpec)

/-- 'gangwaylaw03.CrcPatches', WHERE WHAT IT READS IS OF BULK AT MOST 1048576: true; the input reads as it did. -/
def crcPatchesUptoRow : OpenClaim := { program := "ytffkegfhnlkonaadoor", sum := "cc64a30ff098151bb3dc5ee1e10a958a14fb392beed026093340f61e696e1ddc", func := "gangway/gangwaylaw03.CrcPatches", spec := "crcPatches", named := ["gangway/crc.table"], apart := false, laid := [("gangway/crc.table", laid_gangway_crc_table)], narrowed := true }
def CrcPatchesUptoSaid : Prop := crcPatchesUptoRow.holds Tryd.pinned (OpenSpec.upto crcPatchesSpec)

/-- 'gangwaylaw03.CrcNumbers', WHERE WHAT IT READS IS OF BULK AT MOST 1048576: true; the input reads as it did. -/
def crcNumbersUptoRow : OpenClaim := { program := "ytffkegfhnlkonaadoor", sum := "cc64a30ff098151bb3dc5ee1e10a958a14fb392beed026093340f61e696e1ddc", func := "gangway/gangwaylaw03.CrcNumbers", spec := "crcNumbers", named := ["gangway/crc.table"], apart := false, laid := [("gangway/crc.table", laid_gangway_crc_table)], narrowed := true }
def CrcNumbersUptoSaid : Prop := crcNumbersUptoRow.holds Tryd.pinned (OpenSpec.upto crcNumbersSpec)

/-- 'gangwaylaw03.CrcAlong', WHERE WHAT IT READS IS OF BULK AT MOST 1048576: true; the input reads as it did. -/
def crcAlongUptoRow : OpenClaim := { program := "ytffkegfhnlkonaadoor", sum := "cc64a30ff098151bb3dc5ee1e10a958a14fb392beed026093340f61e696e1ddc", func := "gangway/gangwaylaw03.CrcAlong", spec := "crcAlong", named := ["gangway/crc.table"], apart := false, laid := [("gangway/crc.table", laid_gangway_crc_table)], narrowed := true }
def CrcAlongUptoSaid : Prop := crcAlongUptoRow.holds Tryd.pinned (OpenSpec.upto crcAlongSpec)

/-- 'gangwaylaw03.CrcTells', WHERE WHAT IT READS IS OF BULK AT MOST 1048576: true; the input reads as it did. -/
def crcTellsUptoRow : OpenClaim := { program := "ytffkegfhnlkonaadoor", sum := "cc64a30ff098151bb3dc5ee1e10a958a14fb392beed026093340f61e696e1ddc", func := "gangway/gangwaylaw03.CrcTells", spec := "crcTells", named := ["gangway/crc.table"], apart := false, laid := [("gangway/crc.table", laid_gangway_crc_table)], narrowed := true }
def CrcTellsUptoSaid : Prop := crcTellsUptoRow.holds Tryd.pinned (OpenSpec.upto crcTellsSpec)

/-- 'gangwaylaw03.CrcMends', WHERE WHAT IT READS IS OF BULK AT MOST 1048576: true; the input reads as it did. -/
def crcMendsUptoRow : OpenClaim := { program := "ytffkegfhnlkonaadoor", sum := "cc64a30ff098151bb3dc5ee1e10a958a14fb392beed026093340f61e696e1ddc", func := "gangway/gangwaylaw03.CrcMends", spec := "crcMends", named := ["gangway/crc.table"], apart := false, laid := [("gangway/crc.table", laid_gangway_crc_table)], narrowed := true }
def CrcMendsUptoSaid : Prop := crcMendsUptoRow.holds Tryd.pinned (OpenSpec.upto crcMendsSpec)

/-- 'gangwaylaw03.CrcLinear', WHERE WHAT IT READS IS OF BULK AT MOST 1048576: true; the input reads as it did. -/
def crcLinearUptoRow : OpenClaim := { program := "ytffkegfhnlkonaadoor", sum := "cc64a30ff098151bb3dc5ee1e10a958a14fb392beed026093340f61e696e1ddc", func := "gangway/gangwaylaw03.CrcLinear", spec := "crcLinear", named := ["gangway/crc.table"], apart := false, laid := [("gangway/crc.table", laid_gangway_crc_table)], narrowed := true }
def CrcLinearUptoSaid : Prop := crcLinearUptoRow.holds Tryd.pinned (OpenSpec.upto crcLinearSpec)

end Rows
end Go.Proofs.YtffkegfhnlkonaaDoor
