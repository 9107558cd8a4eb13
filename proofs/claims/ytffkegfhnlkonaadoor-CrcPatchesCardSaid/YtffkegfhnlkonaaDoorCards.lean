/-
  DERIVED. GIVEN WITH THE SEED: THE CARDS: each row of YtffkegfhnlkonaaDoorRows.lean that lists a variable, with what it lists TIED to the program's text (the seventh form; the later family's looks); each row that meets fmt, with fmt's text TOLD by the authors' own Lean function (tested against real Go, not proved from fmt's source: count such statements apart). THE CARD IS WHAT COUNTS. Prove the row's statement (the work); the ties are given (YtffkegfhnlkonaaDoorTie.lean); close each card by the builder's one call (the guide's Derived/Test/ToyasCard.lean, 'card_holds'). Laid BY PROGRAM, IN A SANDBOX (cutbox-door.mjs). By AI agents, Wed Nov 11 2026. No macro, syntax, notation, axiom, sorry.
-/
import Derived.Test.YtffkegfhnlkonaaDoorRows
import GoSem.ClaimSeven
namespace Go.Proofs.YtffkegfhnlkonaaDoor
namespace Rows

/-- THE TIED CARD OF 'gangwaylaw03.CrcSums'. -/
def crcSumsCard : Claim7 := { stood := { row := crcSumsRow, standIns := [], harness := (true, "829a2afbd7f5ea2b1eb9b217adc95a9f841557f619113c5770e468347d9094db"), looks := false }, kinds := [], alts := [], laidByText := true, laidKinds := [.data], laidTests := true, laidLooks := .later }
def CrcSumsCardSaid : Prop := Claim7.holds Tryd.pinned (.plain (OpenSpec.ofChange crcSumsSpec)) crcSumsCard

/-- THE TIED CARD OF 'gangwaylaw03.CrcJoins'. -/
def crcJoinsCard : Claim7 := { stood := { row := crcJoinsRow, standIns := [], harness := (true, "829a2afbd7f5ea2b1eb9b217adc95a9f841557f619113c5770e468347d9094db"), looks := false }, kinds := [], alts := [], laidByText := true, laidKinds := [.data], laidTests := true, laidLooks := .later }
def CrcJoinsCardSaid : Prop := Claim7.holds Tryd.pinned (.plain (OpenSpec.ofChange crcJoinsSpec)) crcJoinsCard

/-- THE TIED CARD OF 'gangwaylaw03.CrcPatches'. -/
def crcPatchesCard : Claim7 := { stood := { row := crcPatchesRow, standIns := [], harness := (true, "829a2afbd7f5ea2b1eb9b217adc95a9f841557f619113c5770e468347d9094db"), looks := false }, kinds := [], alts := [], laidByText := true, laidKinds := [.data], laidTests := true, laidLooks := .later }
def CrcPatchesCardSaid : Prop := Claim7.holds Tryd.pinned (.plain (OpenSpec.ofChange crcPatchesSpec)) crcPatchesCard

/-- THE TIED CARD OF 'gangwaylaw03.CrcNumbers'. -/
def crcNumbersCard : Claim7 := { stood := { row := crcNumbersRow, standIns := [], harness := (true, "829a2afbd7f5ea2b1eb9b217adc95a9f841557f619113c5770e468347d9094db"), looks := false }, kinds := [], alts := [], laidByText := true, laidKinds := [.data], laidTests := true, laidLooks := .later }
def CrcNumbersCardSaid : Prop := Claim7.holds Tryd.pinned (.plain (OpenSpec.ofChange crcNumbersSpec)) crcNumbersCard

/-- THE TIED CARD OF 'gangwaylaw03.CrcAlong'. -/
def crcAlongCard : Claim7 := { stood := { row := crcAlongRow, standIns := [], harness := (true, "829a2afbd7f5ea2b1eb9b217adc95a9f841557f619113c5770e468347d9094db"), looks := false }, kinds := [], alts := [], laidByText := true, laidKinds := [.data], laidTests := true, laidLooks := .later }
def CrcAlongCardSaid : Prop := Claim7.holds Tryd.pinned (.plain (OpenSpec.ofChange crcAlongSpec)) crcAlongCard

/-- THE TIED CARD OF 'gangwaylaw03.CrcTells'. -/
def crcTellsCard : Claim7 := { stood := { row := crcTellsRow, standIns := [], harness := (true, "829a2afbd7f5ea2b1eb9b217adc95a9f841557f619113c5770e468347d9094db"), looks := false }, kinds := [], alts := [], laidByText := true, laidKinds := [.data], laidTests := true, laidLooks := .later }
def CrcTellsCardSaid : Prop := Claim7.holds Tryd.pinned (.plain (OpenSpec.ofChange crcTellsSpec)) crcTellsCard

/-- THE TIED CARD OF 'gangwaylaw03.CrcMends'. -/
def crcMendsCard : Claim7 := { stood := { row := crcMendsRow, standIns := [], harness := (true, "829a2afbd7f5ea2b1eb9b217adc95a9f841557f619113c5770e468347d9094db"), looks := false }, kinds := [], alts := [], laidByText := true, laidKinds := [.data], laidTests := true, laidLooks := .later }
def CrcMendsCardSaid : Prop := Claim7.holds Tryd.pinned (.plain (OpenSpec.ofChange crcMendsSpec)) crcMendsCard

/-- THE TIED CARD OF 'gangwaylaw03.CrcLinear'. -/
def crcLinearCard : Claim7 := { stood := { row := crcLinearRow, standIns := [], harness := (true, "829a2afbd7f5ea2b1eb9b217adc95a9f841557f619113c5770e468347d9094db"), looks := false }, kinds := [], alts := [], laidByText := true, laidKinds := [.data], laidTests := true, laidLooks := .later }
def CrcLinearCardSaid : Prop := Claim7.holds Tryd.pinned (.plain (OpenSpec.ofChange crcLinearSpec)) crcLinearCard

/-- THE SECOND FORM's CARD OF 'gangwaylaw03.CrcSums'. -/
def crcSumsUptoCard : Claim7 := { stood := { row := crcSumsUptoRow, standIns := [], harness := (true, "829a2afbd7f5ea2b1eb9b217adc95a9f841557f619113c5770e468347d9094db"), looks := false }, kinds := [], alts := [], laidByText := true, laidKinds := [.data], laidTests := true, laidLooks := .later }
def CrcSumsUptoCardSaid : Prop := Claim7.holds Tryd.pinned (.plain (OpenSpec.upto crcSumsSpec)) crcSumsUptoCard

/-- THE SECOND FORM's CARD OF 'gangwaylaw03.CrcJoins'. -/
def crcJoinsUptoCard : Claim7 := { stood := { row := crcJoinsUptoRow, standIns := [], harness := (true, "829a2afbd7f5ea2b1eb9b217adc95a9f841557f619113c5770e468347d9094db"), looks := false }, kinds := [], alts := [], laidByText := true, laidKinds := [.data], laidTests := true, laidLooks := .later }
def CrcJoinsUptoCardSaid : Prop := Claim7.holds Tryd.pinned (.plain (OpenSpec.upto crcJoinsSpec)) crcJoinsUptoCard

/-- THE SECOND FORM's CARD OF 'gangwaylaw03.CrcPatches'. -/
def crcPatchesUptoCard : Claim7 := { stood := { row := crcPatchesUptoRow, standIns := [], harness := (true, "829a2afbd7f5ea2b1eb9b217adc95a9f841557f619113c5770e468347d9094db"), looks := false }, kinds := [], alts := [], laidByText := true, laidKinds := [.data], laidTests := true, laidLooks := .later }
def CrcPatchesUptoCardSaid : Prop := Claim7.holds Tryd.pinned (.plain (OpenSpec.upto crcPatchesSpec)) crcPatchesUptoCard

/-- THE SECOND FORM's CARD OF 'gangwaylaw03.CrcNumbers'. -/
def crcNumbersUptoCard : Claim7 := { stood := { row := crcNumbersUptoRow, standIns := [], harness := (true, "829a2afbd7f5ea2b1eb9b217adc95a9f841557f619113c5770e468347d9094db"), looks := false }, kinds := [], alts := [], laidByText := true, laidKinds := [.data], laidTests := true, laidLooks := .later }
def CrcNumbersUptoCardSaid : Prop := Claim7.holds Tryd.pinned (.plain (OpenSpec.upto crcNumbersSpec)) crcNumbersUptoCard

/-- THE SECOND FORM's CARD OF 'gangwaylaw03.CrcAlong'. -/
def crcAlongUptoCard : Claim7 := { stood := { row := crcAlongUptoRow, standIns := [], harness := (true, "829a2afbd7f5ea2b1eb9b217adc95a9f841557f619113c5770e468347d9094db"), looks := false }, kinds := [], alts := [], laidByText := true, laidKinds := [.data], laidTests := true, laidLooks := .later }
def CrcAlongUptoCardSaid : Prop := Claim7.holds Tryd.pinned (.plain (OpenSpec.upto crcAlongSpec)) crcAlongUptoCard

/-- THE SECOND FORM's CARD OF 'gangwaylaw03.CrcTells'. -/
def crcTellsUptoCard : Claim7 := { stood := { row := crcTellsUptoRow, standIns := [], harness := (true, "829a2afbd7f5ea2b1eb9b217adc95a9f841557f619113c5770e468347d9094db"), looks := false }, kinds := [], alts := [], laidByText := true, laidKinds := [.data], laidTests := true, laidLooks := .later }
def CrcTellsUptoCardSaid : Prop := Claim7.holds Tryd.pinned (.plain (OpenSpec.upto crcTellsSpec)) crcTellsUptoCard

/-- THE SECOND FORM's CARD OF 'gangwaylaw03.CrcMends'. -/
def crcMendsUptoCard : Claim7 := { stood := { row := crcMendsUptoRow, standIns := [], harness := (true, "829a2afbd7f5ea2b1eb9b217adc95a9f841557f619113c5770e468347d9094db"), looks := false }, kinds := [], alts := [], laidByText := true, laidKinds := [.data], laidTests := true, laidLooks := .later }
def CrcMendsUptoCardSaid : Prop := Claim7.holds Tryd.pinned (.plain (OpenSpec.upto crcMendsSpec)) crcMendsUptoCard

/-- THE SECOND FORM's CARD OF 'gangwaylaw03.CrcLinear'. -/
def crcLinearUptoCard : Claim7 := { stood := { row := crcLinearUptoRow, standIns := [], harness := (true, "829a2afbd7f5ea2b1eb9b217adc95a9f841557f619113c5770e468347d9094db"), looks := false }, kinds := [], alts := [], laidByText := true, laidKinds := [.data], laidTests := true, laidLooks := .later }
def CrcLinearUptoCardSaid : Prop := Claim7.holds Tryd.pinned (.plain (OpenSpec.upto crcLinearSpec)) crcLinearUptoCard
end Rows
end Go.Proofs.YtffkegfhnlkonaaDoor
