/-
  DERIVED. GIVEN WITH THE SEED: THE CARDS: each row of YtfjhfmfeblcnhaaDoorRows.lean that lists a variable, with what it lists TIED to the program's text (the seventh form; the later family's looks); each row that meets fmt, with fmt's text TOLD by the authors' own Lean function (tested against real Go, not proved from fmt's source: count such statements apart). THE CARD IS WHAT COUNTS. Prove the row's statement (the work); the ties are given (YtfjhfmfeblcnhaaDoorTie.lean); close each card by the builder's one call (the guide's Derived/Test/ToyasCard.lean, 'card_holds'). Laid BY PROGRAM, IN A SANDBOX (cutbox-door.mjs). By AI agents, Wed Nov 11 2026. No macro, syntax, notation, axiom, sorry.
-/
import Derived.Test.YtfjhfmfeblcnhaaDoorRows
import GoSem.ClaimSeven
namespace Go.Proofs.YtfjhfmfeblcnhaaDoor
namespace Rows

/-- THE TIED CARD OF 'laws.FnKnown'. -/
def fnKnownCard : Claim7 := { stood := { row := fnKnownRow, standIns := [], harness := (true, "748ebfefcf4f9a7f3dab1a4860dc210fb5780141701d0d3c58973643c4156394"), looks := false }, kinds := [], alts := [], laidByText := true, laidKinds := [.data], laidTests := true, laidLooks := .later }
def FnKnownCardSaid : Prop := Claim7.holds Tryd.pinned (.plain (OpenSpec.ofChange fnKnownSpec)) fnKnownCard

/-- THE TIED CARD OF 'laws.FnExactShaBlock'. -/
def fnExactShaBlockCard : Claim7 := { stood := { row := fnExactShaBlockRow, standIns := [], harness := (true, "748ebfefcf4f9a7f3dab1a4860dc210fb5780141701d0d3c58973643c4156394"), looks := false }, kinds := [], alts := [], laidByText := true, laidKinds := [.data], laidTests := true, laidLooks := .later }
def FnExactShaBlockCardSaid : Prop := Claim7.holds Tryd.pinned (.plain (OpenSpec.ofChange fnExactShaBlockSpec)) fnExactShaBlockCard

/-- THE TIED CARD OF 'laws.FnExactDigest'. -/
def fnExactDigestCard : Claim7 := { stood := { row := fnExactDigestRow, standIns := [], harness := (true, "748ebfefcf4f9a7f3dab1a4860dc210fb5780141701d0d3c58973643c4156394"), looks := false }, kinds := [], alts := [], laidByText := true, laidKinds := [.data], laidTests := true, laidLooks := .later }
def FnExactDigestCardSaid : Prop := Claim7.holds Tryd.pinned (.plain (OpenSpec.ofChange fnExactDigestSpec)) fnExactDigestCard

/-- THE TIED CARD OF 'laws.FnExactCutDigest'. -/
def fnExactCutDigestCard : Claim7 := { stood := { row := fnExactCutDigestRow, standIns := [], harness := (true, "748ebfefcf4f9a7f3dab1a4860dc210fb5780141701d0d3c58973643c4156394"), looks := false }, kinds := [], alts := [], laidByText := true, laidKinds := [.data], laidTests := true, laidLooks := .later }
def FnExactCutDigestCardSaid : Prop := Claim7.holds Tryd.pinned (.plain (OpenSpec.ofChange fnExactCutDigestSpec)) fnExactCutDigestCard

/-- THE TIED CARD OF 'laws.FnExactDigestHex'. -/
def fnExactDigestHexCard : Claim7 := { stood := { row := fnExactDigestHexRow, standIns := [], harness := (true, "748ebfefcf4f9a7f3dab1a4860dc210fb5780141701d0d3c58973643c4156394"), looks := false }, kinds := [], alts := [], laidByText := true, laidKinds := [.data], laidTests := true, laidLooks := .later }
def FnExactDigestHexCardSaid : Prop := Claim7.holds Tryd.pinned (.plain (OpenSpec.ofChange fnExactDigestHexSpec)) fnExactDigestHexCard

/-- THE TIED CARD OF 'laws.FnDigestTurned'. -/
def fnDigestTurnedCard : Claim7 := { stood := { row := fnDigestTurnedRow, standIns := [], harness := (true, "748ebfefcf4f9a7f3dab1a4860dc210fb5780141701d0d3c58973643c4156394"), looks := false }, kinds := [], alts := [], laidByText := true, laidKinds := [.data], laidTests := true, laidLooks := .later }
def FnDigestTurnedCardSaid : Prop := Claim7.holds Tryd.pinned (.plain (OpenSpec.ofChange fnDigestTurnedSpec)) fnDigestTurnedCard

/-- THE TIED CARD OF 'laws.FnBlocks'. -/
def fnBlocksCard : Claim7 := { stood := { row := fnBlocksRow, standIns := [], harness := (true, "748ebfefcf4f9a7f3dab1a4860dc210fb5780141701d0d3c58973643c4156394"), looks := false }, kinds := [], alts := [], laidByText := true, laidKinds := [.data], laidTests := true, laidLooks := .later }
def FnBlocksCardSaid : Prop := Claim7.holds Tryd.pinned (.plain (OpenSpec.ofChange fnBlocksSpec)) fnBlocksCard

/-- THE SECOND FORM's CARD OF 'laws.FnKnown'. -/
def fnKnownUptoCard : Claim7 := { stood := { row := fnKnownUptoRow, standIns := [], harness := (true, "748ebfefcf4f9a7f3dab1a4860dc210fb5780141701d0d3c58973643c4156394"), looks := false }, kinds := [], alts := [], laidByText := true, laidKinds := [.data], laidTests := true, laidLooks := .later }
def FnKnownUptoCardSaid : Prop := Claim7.holds Tryd.pinned (.plain (OpenSpec.upto fnKnownSpec)) fnKnownUptoCard

/-- THE SECOND FORM's CARD OF 'laws.FnExactShaBlock'. -/
def fnExactShaBlockUptoCard : Claim7 := { stood := { row := fnExactShaBlockUptoRow, standIns := [], harness := (true, "748ebfefcf4f9a7f3dab1a4860dc210fb5780141701d0d3c58973643c4156394"), looks := false }, kinds := [], alts := [], laidByText := true, laidKinds := [.data], laidTests := true, laidLooks := .later }
def FnExactShaBlockUptoCardSaid : Prop := Claim7.holds Tryd.pinned (.plain (OpenSpec.upto fnExactShaBlockSpec)) fnExactShaBlockUptoCard

/-- THE SECOND FORM's CARD OF 'laws.FnExactDigest'. -/
def fnExactDigestUptoCard : Claim7 := { stood := { row := fnExactDigestUptoRow, standIns := [], harness := (true, "748ebfefcf4f9a7f3dab1a4860dc210fb5780141701d0d3c58973643c4156394"), looks := false }, kinds := [], alts := [], laidByText := true, laidKinds := [.data], laidTests := true, laidLooks := .later }
def FnExactDigestUptoCardSaid : Prop := Claim7.holds Tryd.pinned (.plain (OpenSpec.upto fnExactDigestSpec)) fnExactDigestUptoCard

/-- THE SECOND FORM's CARD OF 'laws.FnExactCutDigest'. -/
def fnExactCutDigestUptoCard : Claim7 := { stood := { row := fnExactCutDigestUptoRow, standIns := [], harness := (true, "748ebfefcf4f9a7f3dab1a4860dc210fb5780141701d0d3c58973643c4156394"), looks := false }, kinds := [], alts := [], laidByText := true, laidKinds := [.data], laidTests := true, laidLooks := .later }
def FnExactCutDigestUptoCardSaid : Prop := Claim7.holds Tryd.pinned (.plain (OpenSpec.upto fnExactCutDigestSpec)) fnExactCutDigestUptoCard

/-- THE SECOND FORM's CARD OF 'laws.FnExactDigestHex'. -/
def fnExactDigestHexUptoCard : Claim7 := { stood := { row := fnExactDigestHexUptoRow, standIns := [], harness := (true, "748ebfefcf4f9a7f3dab1a4860dc210fb5780141701d0d3c58973643c4156394"), looks := false }, kinds := [], alts := [], laidByText := true, laidKinds := [.data], laidTests := true, laidLooks := .later }
def FnExactDigestHexUptoCardSaid : Prop := Claim7.holds Tryd.pinned (.plain (OpenSpec.upto fnExactDigestHexSpec)) fnExactDigestHexUptoCard

/-- THE SECOND FORM's CARD OF 'laws.FnDigestTurned'. -/
def fnDigestTurnedUptoCard : Claim7 := { stood := { row := fnDigestTurnedUptoRow, standIns := [], harness := (true, "748ebfefcf4f9a7f3dab1a4860dc210fb5780141701d0d3c58973643c4156394"), looks := false }, kinds := [], alts := [], laidByText := true, laidKinds := [.data], laidTests := true, laidLooks := .later }
def FnDigestTurnedUptoCardSaid : Prop := Claim7.holds Tryd.pinned (.plain (OpenSpec.upto fnDigestTurnedSpec)) fnDigestTurnedUptoCard

/-- THE SECOND FORM's CARD OF 'laws.FnBlocks'. -/
def fnBlocksUptoCard : Claim7 := { stood := { row := fnBlocksUptoRow, standIns := [], harness := (true, "748ebfefcf4f9a7f3dab1a4860dc210fb5780141701d0d3c58973643c4156394"), looks := false }, kinds := [], alts := [], laidByText := true, laidKinds := [.data], laidTests := true, laidLooks := .later }
def FnBlocksUptoCardSaid : Prop := Claim7.holds Tryd.pinned (.plain (OpenSpec.upto fnBlocksSpec)) fnBlocksUptoCard
end Rows
end Go.Proofs.YtfjhfmfeblcnhaaDoor
