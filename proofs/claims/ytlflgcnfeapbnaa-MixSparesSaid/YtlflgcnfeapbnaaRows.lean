/-
  No cell of these rows narrows 'for every input' (looked for: loops, veiled, ifaces, maps, wideKeys, modest, calm, conditions, laid).
  DERIVED. THE GIVEN ROWS OF THIS SEAT. 7 by the template 'for every input the law returns true; each argument reads behind the call as it read before'; 0 by the template 'total and deterministic' (their statements: YtlflgcnfeapbnaaTotals.lean).
  GIVEN WITH THE SEED: the statements are not yours to turn. If you find one false, say at which input.
  Laid BY PROGRAM, IN A SANDBOX (cutbox-rows.mjs): the forced cells as the released guide's own fill.sh prints them over the translation 2a7abc3a0b268efc… (all of the seat's roots in one cut). By AI agents, Wed Nov 11 2026. No macro, syntax, notation, axiom, sorry.
-/
import Derived.Test.YtlflgcnfeapbnaaChecked
import GoSem.Claim
import GoSem.ClaimJoined
import GoSem.ClaimMapViews
import Derived.JoinedTies
import Derived.KernelRfl
namespace Go.Proofs.Ytlflgcnfeapbnaa
/- THE CELL 'sum', in the pinned program and in every row, IS THE sha256 OF THE DUMP (.gsa) THAT YtlflgcnfeapbnaaProg.lean LOADS. Nothing in Lean hashes anything: it is a label: what it is worth is what the hold of that sum in a sandbox is worth. -/
noncomputable def Try.pinned : Pinned := { name := "ytlflgcnfeapbnaa", sum := "2a7abc3a0b268efc4797b03272a2ef0b2f153545b5c25cbdfad9488a6d8e8016", checked := Try.checked }
namespace Rows
def none {H : Type} : Left H := { results := [], args := [] }

/-- 'gangwaylaw04.MixHashes': WHATEVER THE INPUT: true; the input reads as it did. -/
def mixHashesSpec : ChangeSpec := { name := "mixHashes", fn := fun _ => fun
  | [d] => { results := [.lit (.bool true)], args := [d] }
  | _ => none }
def mixHashesRow : OpenClaim := { program := "ytlflgcnfeapbnaa", sum := "2a7abc3a0b268efc4797b03272a2ef0b2f153545b5c25cbdfad9488a6d8e8016", func := "gangway/gangwaylaw04.MixHashes", spec := "mixHashes", apart := false }
def MixHashesSaid : Prop := mixHashesRow.holds Try.pinned (OpenSpec.ofChange mixHashesSpec)

/-- ITS FALSE NEIGHBOUR: 'it returns false'. Refute it at one input. -/
def mixHashesWrong : ChangeSpec := { name := "mixHashes", fn := fun _ => fun
  | [d] => { results := [.lit (.bool false)], args := [d] }
  | _ => none }
def MixHashesWrongFalsely : Prop := mixHashesRow.holds Try.pinned (OpenSpec.ofChange mixHashesWrong)

/-- 'gangwaylaw04.MixTexts': WHATEVER THE INPUT: true; the input reads as it did. -/
def mixTextsSpec : ChangeSpec := { name := "mixTexts", fn := fun _ => fun
  | [d] => { results := [.lit (.bool true)], args := [d] }
  | _ => none }
def mixTextsRow : OpenClaim := { program := "ytlflgcnfeapbnaa", sum := "2a7abc3a0b268efc4797b03272a2ef0b2f153545b5c25cbdfad9488a6d8e8016", func := "gangway/gangwaylaw04.MixTexts", spec := "mixTexts", apart := false }
def MixTextsSaid : Prop := mixTextsRow.holds Try.pinned (OpenSpec.ofChange mixTextsSpec)

/-- ITS FALSE NEIGHBOUR: 'it returns false'. Refute it at one input. -/
def mixTextsWrong : ChangeSpec := { name := "mixTexts", fn := fun _ => fun
  | [d] => { results := [.lit (.bool false)], args := [d] }
  | _ => none }
def MixTextsWrongFalsely : Prop := mixTextsRow.holds Try.pinned (OpenSpec.ofChange mixTextsWrong)

/-- 'gangwaylaw04.MixBack': WHATEVER THE INPUT: true; the input reads as it did. -/
def mixBackSpec : ChangeSpec := { name := "mixBack", fn := fun _ => fun
  | [d1, d2] => { results := [.lit (.bool true)], args := [d1, d2] }
  | _ => none }
def mixBackRow : OpenClaim := { program := "ytlflgcnfeapbnaa", sum := "2a7abc3a0b268efc4797b03272a2ef0b2f153545b5c25cbdfad9488a6d8e8016", func := "gangway/gangwaylaw04.MixBack", spec := "mixBack", apart := false }
def MixBackSaid : Prop := mixBackRow.holds Try.pinned (OpenSpec.ofChange mixBackSpec)

/-- ITS FALSE NEIGHBOUR: 'it returns false'. Refute it at one input. -/
def mixBackWrong : ChangeSpec := { name := "mixBack", fn := fun _ => fun
  | [d1, d2] => { results := [.lit (.bool false)], args := [d1, d2] }
  | _ => none }
def MixBackWrongFalsely : Prop := mixBackRow.holds Try.pinned (OpenSpec.ofChange mixBackWrong)

/-- 'gangwaylaw04.MixNumbers': WHATEVER THE INPUT: true; the input reads as it did. -/
def mixNumbersSpec : ChangeSpec := { name := "mixNumbers", fn := fun _ => fun
  | [] => { results := [.lit (.bool true)], args := [] }
  | _ => none }
def mixNumbersRow : OpenClaim := { program := "ytlflgcnfeapbnaa", sum := "2a7abc3a0b268efc4797b03272a2ef0b2f153545b5c25cbdfad9488a6d8e8016", func := "gangway/gangwaylaw04.MixNumbers", spec := "mixNumbers", unfollowed := true, recurses := true, apart := false }
def MixNumbersSaid : Prop := mixNumbersRow.holds Try.pinned (OpenSpec.ofChange mixNumbersSpec)

/-- ITS FALSE NEIGHBOUR: 'it returns false'. Refute it at one input. -/
def mixNumbersWrong : ChangeSpec := { name := "mixNumbers", fn := fun _ => fun
  | [] => { results := [.lit (.bool false)], args := [] }
  | _ => none }
def MixNumbersWrongFalsely : Prop := mixNumbersRow.holds Try.pinned (OpenSpec.ofChange mixNumbersWrong)

/-- 'gangwaylaw04.MixWords': WHATEVER THE INPUT: true; the input reads as it did. -/
def mixWordsSpec : ChangeSpec := { name := "mixWords", fn := fun _ => fun
  | [d1, d2] => { results := [.lit (.bool true)], args := [d1, d2] }
  | _ => none }
def mixWordsRow : OpenClaim := { program := "ytlflgcnfeapbnaa", sum := "2a7abc3a0b268efc4797b03272a2ef0b2f153545b5c25cbdfad9488a6d8e8016", func := "gangway/gangwaylaw04.MixWords", spec := "mixWords", unfollowed := true, recurses := true, apart := false }
def MixWordsSaid : Prop := mixWordsRow.holds Try.pinned (OpenSpec.ofChange mixWordsSpec)

/-- ITS FALSE NEIGHBOUR: 'it returns false'. Refute it at one input. -/
def mixWordsWrong : ChangeSpec := { name := "mixWords", fn := fun _ => fun
  | [d1, d2] => { results := [.lit (.bool false)], args := [d1, d2] }
  | _ => none }
def MixWordsWrongFalsely : Prop := mixWordsRow.holds Try.pinned (OpenSpec.ofChange mixWordsWrong)

/-- 'gangwaylaw04.MixRows': WHATEVER THE INPUT: true; the input reads as it did. -/
def mixRowsSpec : ChangeSpec := { name := "mixRows", fn := fun _ => fun
  | [d1, d2, d3] => { results := [.lit (.bool true)], args := [d1, d2, d3] }
  | _ => none }
def mixRowsRow : OpenClaim := { program := "ytlflgcnfeapbnaa", sum := "2a7abc3a0b268efc4797b03272a2ef0b2f153545b5c25cbdfad9488a6d8e8016", func := "gangway/gangwaylaw04.MixRows", spec := "mixRows", unfollowed := true, recurses := true, apart := false }
def MixRowsSaid : Prop := mixRowsRow.holds Try.pinned (OpenSpec.ofChange mixRowsSpec)

/-- ITS FALSE NEIGHBOUR: 'it returns false'. Refute it at one input. -/
def mixRowsWrong : ChangeSpec := { name := "mixRows", fn := fun _ => fun
  | [d1, d2, d3] => { results := [.lit (.bool false)], args := [d1, d2, d3] }
  | _ => none }
def MixRowsWrongFalsely : Prop := mixRowsRow.holds Try.pinned (OpenSpec.ofChange mixRowsWrong)

/-- 'gangwaylaw04.MixSpares': WHATEVER THE INPUT: true; the input reads as it did. -/
def mixSparesSpec : ChangeSpec := { name := "mixSpares", fn := fun _ => fun
  | [d1, d2] => { results := [.lit (.bool true)], args := [d1, d2] }
  | _ => none }
def mixSparesRow : OpenClaim := { program := "ytlflgcnfeapbnaa", sum := "2a7abc3a0b268efc4797b03272a2ef0b2f153545b5c25cbdfad9488a6d8e8016", func := "gangway/gangwaylaw04.MixSpares", spec := "mixSpares", unfollowed := true, recurses := true, apart := false }
def MixSparesSaid : Prop := mixSparesRow.holds Try.pinned (OpenSpec.ofChange mixSparesSpec)

/-- ITS FALSE NEIGHBOUR: 'it returns false'. Refute it at one input. -/
def mixSparesWrong : ChangeSpec := { name := "mixSpares", fn := fun _ => fun
  | [d1, d2] => { results := [.lit (.bool false)], args := [d1, d2] }
  | _ => none }
def MixSparesWrongFalsely : Prop := mixSparesRow.holds Try.pinned (OpenSpec.ofChange mixSparesWrong)

/- THE SECOND FORM. 'bulk': how many values and letters a reading holds, each counted each time it is reached (what is shared counts as often as it is met; a slice's spare places count too). A statement '..UptoSaid' is the law's where the arguments, and the package variables that the reading takes, are together of bulk at most 1048576: NARROWER than '..Said'. Prove '..Said' where nothing that the law and all that it calls make is longer than what came in: it says more and counts as full. Else prove '..UptoSaid'. A law counts once. -/
mutual
def uptoBulk {H : Type} : DataW H → Nat
  | .lit (.string bytes) => bytes.length + 1
  | .lit _ => 1
  | .nil => 1
  | .ptr d => uptoBulk d + 1
  | .slice elems spare => uptoBulkAll elems + uptoBulkAll spare + 1
  | .agg parts => uptoBulkAll parts + 1
  | .iface _ d => uptoBulk d + 1
  | .map entries => uptoBulkEntries entries + 1
  | .held _ => 1
def uptoBulkAll {H : Type} : List (DataW H) → Nat
  | [] => 0
  | d :: r => uptoBulk d + uptoBulkAll r
def uptoBulkEntries {H : Type} : List (Lit × DataW H) → Nat
  | [] => 0
  | x :: r => uptoBulkEntry x + uptoBulkEntries r
def uptoBulkEntry {H : Type} : Lit × DataW H → Nat
  | (.string bytes, d) => bytes.length + uptoBulk d + 1
  | (_, d) => uptoBulk d + 1
 end
def uptoSmall : (H : Type) → List (DataW H) → Bool := fun _ ds => decide (uptoBulkAll ds ≤ 1048576)
def OpenSpec.upto (s : _root_.Go.ChangeSpec) : _root_.Go.OpenSpec := { _root_.Go.OpenSpec.ofChange s with cond := some uptoSmall }

/-- 'gangwaylaw04.MixHashes', WHERE WHAT IT READS IS OF BULK AT MOST 1048576: true; the input reads as it did. -/
def mixHashesUptoRow : OpenClaim := { program := "ytlflgcnfeapbnaa", sum := "2a7abc3a0b268efc4797b03272a2ef0b2f153545b5c25cbdfad9488a6d8e8016", func := "gangway/gangwaylaw04.MixHashes", spec := "mixHashes", apart := false, narrowed := true }
def MixHashesUptoSaid : Prop := mixHashesUptoRow.holds Try.pinned (OpenSpec.upto mixHashesSpec)

/-- 'gangwaylaw04.MixTexts', WHERE WHAT IT READS IS OF BULK AT MOST 1048576: true; the input reads as it did. -/
def mixTextsUptoRow : OpenClaim := { program := "ytlflgcnfeapbnaa", sum := "2a7abc3a0b268efc4797b03272a2ef0b2f153545b5c25cbdfad9488a6d8e8016", func := "gangway/gangwaylaw04.MixTexts", spec := "mixTexts", apart := false, narrowed := true }
def MixTextsUptoSaid : Prop := mixTextsUptoRow.holds Try.pinned (OpenSpec.upto mixTextsSpec)

/-- 'gangwaylaw04.MixBack', WHERE WHAT IT READS IS OF BULK AT MOST 1048576: true; the input reads as it did. -/
def mixBackUptoRow : OpenClaim := { program := "ytlflgcnfeapbnaa", sum := "2a7abc3a0b268efc4797b03272a2ef0b2f153545b5c25cbdfad9488a6d8e8016", func := "gangway/gangwaylaw04.MixBack", spec := "mixBack", apart := false, narrowed := true }
def MixBackUptoSaid : Prop := mixBackUptoRow.holds Try.pinned (OpenSpec.upto mixBackSpec)

/-- 'gangwaylaw04.MixNumbers', WHERE WHAT IT READS IS OF BULK AT MOST 1048576: true; the input reads as it did. -/
def mixNumbersUptoRow : OpenClaim := { program := "ytlflgcnfeapbnaa", sum := "2a7abc3a0b268efc4797b03272a2ef0b2f153545b5c25cbdfad9488a6d8e8016", func := "gangway/gangwaylaw04.MixNumbers", spec := "mixNumbers", unfollowed := true, recurses := true, apart := false, narrowed := true }
def MixNumbersUptoSaid : Prop := mixNumbersUptoRow.holds Try.pinned (OpenSpec.upto mixNumbersSpec)

/-- 'gangwaylaw04.MixWords', WHERE WHAT IT READS IS OF BULK AT MOST 1048576: true; the input reads as it did. -/
def mixWordsUptoRow : OpenClaim := { program := "ytlflgcnfeapbnaa", sum := "2a7abc3a0b268efc4797b03272a2ef0b2f153545b5c25cbdfad9488a6d8e8016", func := "gangway/gangwaylaw04.MixWords", spec := "mixWords", unfollowed := true, recurses := true, apart := false, narrowed := true }
def MixWordsUptoSaid : Prop := mixWordsUptoRow.holds Try.pinned (OpenSpec.upto mixWordsSpec)

/-- 'gangwaylaw04.MixRows', WHERE WHAT IT READS IS OF BULK AT MOST 1048576: true; the input reads as it did. -/
def mixRowsUptoRow : OpenClaim := { program := "ytlflgcnfeapbnaa", sum := "2a7abc3a0b268efc4797b03272a2ef0b2f153545b5c25cbdfad9488a6d8e8016", func := "gangway/gangwaylaw04.MixRows", spec := "mixRows", unfollowed := true, recurses := true, apart := false, narrowed := true }
def MixRowsUptoSaid : Prop := mixRowsUptoRow.holds Try.pinned (OpenSpec.upto mixRowsSpec)

/-- 'gangwaylaw04.MixSpares', WHERE WHAT IT READS IS OF BULK AT MOST 1048576: true; the input reads as it did. -/
def mixSparesUptoRow : OpenClaim := { program := "ytlflgcnfeapbnaa", sum := "2a7abc3a0b268efc4797b03272a2ef0b2f153545b5c25cbdfad9488a6d8e8016", func := "gangway/gangwaylaw04.MixSpares", spec := "mixSpares", unfollowed := true, recurses := true, apart := false, narrowed := true }
def MixSparesUptoSaid : Prop := mixSparesUptoRow.holds Try.pinned (OpenSpec.upto mixSparesSpec)

end Rows
end Go.Proofs.Ytlflgcnfeapbnaa
