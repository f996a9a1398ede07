/-
  DERIVED. GIVEN WITH THE SEED: THE CARDS: each row of YtopaednfjjjnbaaDoorRows.lean that lists a variable, with what it lists TIED to the program's text (the seventh form; the later family's looks); each row that meets fmt, with fmt's text TOLD by the authors' own Lean function (tested against real Go, not proved from fmt's source: count such statements apart). THE CARD IS WHAT COUNTS. Prove the row's statement (the work); the ties are given (YtopaednfjjjnbaaDoorTie.lean); close each card by the builder's one call (the guide's Derived/Test/ToyasCard.lean, 'card_holds'). Laid BY PROGRAM, IN A SANDBOX (cutbox-door.mjs). By AI agents, Wed Nov 11 2026. No macro, syntax, notation, axiom, sorry.
-/
import Derived.Test.YtopaednfjjjnbaaDoorRows
import GoSem.ClaimSeven
namespace Go.Proofs.YtopaednfjjjnbaaDoor
namespace Rows

/-- THE TIED CARD OF 'suffragelaw35.BoardNames'. -/
def boardNamesCard : Claim7 := { stood := { row := boardNamesRow, standIns := [], harness := (true, "911f29a6086582fcb013da5481a79d3f063ebe610aff9804d0066d039bfb40c7"), looks := false }, kinds := [], alts := [], laidByText := true, laidKinds := [.data, .data], laidTests := true, laidLooks := .later }
def BoardNamesCardSaid : Prop := Claim7.holds Tryd.pinned (.plain (OpenSpec.ofChange boardNamesSpec)) boardNamesCard

/-- THE TIED CARD OF 'suffragelaw35.BoardKeeps'. -/
def boardKeepsCard : Claim7 := { stood := { row := boardKeepsRow, standIns := [], harness := (true, "911f29a6086582fcb013da5481a79d3f063ebe610aff9804d0066d039bfb40c7"), looks := false }, kinds := [], alts := [], laidByText := true, laidKinds := [.data, .data], laidTests := true, laidLooks := .later }
def BoardKeepsCardSaid : Prop := Claim7.holds Tryd.pinned (.plain (OpenSpec.ofChange boardKeepsSpec)) boardKeepsCard

/-- THE TIED CARD OF 'suffragelaw35.BoardTells'. -/
def boardTellsCard : Claim7 := { stood := { row := boardTellsRow, standIns := [], harness := (true, "911f29a6086582fcb013da5481a79d3f063ebe610aff9804d0066d039bfb40c7"), looks := false }, kinds := [], alts := [], laidByText := true, laidKinds := [.data, .data], laidTests := true, laidLooks := .later }
def BoardTellsCardSaid : Prop := Claim7.holds Tryd.pinned (.plain (OpenSpec.ofChange boardTellsSpec)) boardTellsCard

/-- THE TIED CARD OF 'suffragelaw35.BoardIncludes'. -/
def boardIncludesCard : Claim7 := { stood := { row := boardIncludesRow, standIns := [], harness := (true, "911f29a6086582fcb013da5481a79d3f063ebe610aff9804d0066d039bfb40c7"), looks := false }, kinds := [], alts := [], laidByText := true, laidKinds := [.data, .data], laidTests := true, laidLooks := .later }
def BoardIncludesCardSaid : Prop := Claim7.holds Tryd.pinned (.plain (OpenSpec.ofChange boardIncludesSpec)) boardIncludesCard

/-- THE TIED CARD OF 'suffragelaw35.BoardForks'. -/
def boardForksCard : Claim7 := { stood := { row := boardForksRow, standIns := [], harness := (true, "911f29a6086582fcb013da5481a79d3f063ebe610aff9804d0066d039bfb40c7"), looks := false }, kinds := [], alts := [], laidByText := true, laidKinds := [.data, .data], laidTests := true, laidLooks := .later }
def BoardForksCardSaid : Prop := Claim7.holds Tryd.pinned (.plain (OpenSpec.ofChange boardForksSpec)) boardForksCard

/-- THE TIED CARD OF 'suffragelaw35.BoardExtends'. -/
def boardExtendsCard : Claim7 := { stood := { row := boardExtendsRow, standIns := [], harness := (true, "911f29a6086582fcb013da5481a79d3f063ebe610aff9804d0066d039bfb40c7"), looks := false }, kinds := [], alts := [], laidByText := true, laidKinds := [.data, .data], laidTests := true, laidLooks := .later }
def BoardExtendsCardSaid : Prop := Claim7.holds Tryd.pinned (.plain (OpenSpec.ofChange boardExtendsSpec)) boardExtendsCard

/-- THE TIED CARD OF 'suffragelaw35.BoardHeads'. -/
def boardHeadsCard : Claim7 := { stood := { row := boardHeadsRow, standIns := [], harness := (true, "911f29a6086582fcb013da5481a79d3f063ebe610aff9804d0066d039bfb40c7"), looks := false }, kinds := [], alts := [], laidByText := true, laidKinds := [.data, .data], laidTests := true, laidLooks := .later }
def BoardHeadsCardSaid : Prop := Claim7.holds Tryd.pinned (.plain (OpenSpec.ofChange boardHeadsSpec)) boardHeadsCard

/-- THE TIED CARD OF 'suffragelaw35.BoardProofs'. -/
def boardProofsCard : Claim7 := { stood := { row := boardProofsRow, standIns := [], harness := (true, "911f29a6086582fcb013da5481a79d3f063ebe610aff9804d0066d039bfb40c7"), looks := false }, kinds := [], alts := [], laidByText := true, laidKinds := [.data, .data], laidTests := true, laidLooks := .later }
def BoardProofsCardSaid : Prop := Claim7.holds Tryd.pinned (.plain (OpenSpec.ofChange boardProofsSpec)) boardProofsCard

/-- THE TIED CARD OF 'suffragelaw35.BoardSigned'. -/
def boardSignedCard : Claim7 := { stood := { row := boardSignedRow, standIns := [], harness := (true, "911f29a6086582fcb013da5481a79d3f063ebe610aff9804d0066d039bfb40c7"), looks := false }, kinds := [], alts := [], laidByText := true, laidKinds := [.data, .data], laidTests := true, laidLooks := .later }
def BoardSignedCardSaid : Prop := Claim7.holds Tryd.pinned (.plain (OpenSpec.ofChange boardSignedSpec)) boardSignedCard

/-- THE SECOND FORM's CARD OF 'suffragelaw35.BoardNames'. -/
def boardNamesUptoCard : Claim7 := { stood := { row := boardNamesUptoRow, standIns := [], harness := (true, "911f29a6086582fcb013da5481a79d3f063ebe610aff9804d0066d039bfb40c7"), looks := false }, kinds := [], alts := [], laidByText := true, laidKinds := [.data, .data], laidTests := true, laidLooks := .later }
def BoardNamesUptoCardSaid : Prop := Claim7.holds Tryd.pinned (.plain (OpenSpec.upto boardNamesSpec)) boardNamesUptoCard

/-- THE SECOND FORM's CARD OF 'suffragelaw35.BoardKeeps'. -/
def boardKeepsUptoCard : Claim7 := { stood := { row := boardKeepsUptoRow, standIns := [], harness := (true, "911f29a6086582fcb013da5481a79d3f063ebe610aff9804d0066d039bfb40c7"), looks := false }, kinds := [], alts := [], laidByText := true, laidKinds := [.data, .data], laidTests := true, laidLooks := .later }
def BoardKeepsUptoCardSaid : Prop := Claim7.holds Tryd.pinned (.plain (OpenSpec.upto boardKeepsSpec)) boardKeepsUptoCard

/-- THE SECOND FORM's CARD OF 'suffragelaw35.BoardTells'. -/
def boardTellsUptoCard : Claim7 := { stood := { row := boardTellsUptoRow, standIns := [], harness := (true, "911f29a6086582fcb013da5481a79d3f063ebe610aff9804d0066d039bfb40c7"), looks := false }, kinds := [], alts := [], laidByText := true, laidKinds := [.data, .data], laidTests := true, laidLooks := .later }
def BoardTellsUptoCardSaid : Prop := Claim7.holds Tryd.pinned (.plain (OpenSpec.upto boardTellsSpec)) boardTellsUptoCard

/-- THE SECOND FORM's CARD OF 'suffragelaw35.BoardIncludes'. -/
def boardIncludesUptoCard : Claim7 := { stood := { row := boardIncludesUptoRow, standIns := [], harness := (true, "911f29a6086582fcb013da5481a79d3f063ebe610aff9804d0066d039bfb40c7"), looks := false }, kinds := [], alts := [], laidByText := true, laidKinds := [.data, .data], laidTests := true, laidLooks := .later }
def BoardIncludesUptoCardSaid : Prop := Claim7.holds Tryd.pinned (.plain (OpenSpec.upto boardIncludesSpec)) boardIncludesUptoCard

/-- THE SECOND FORM's CARD OF 'suffragelaw35.BoardForks'. -/
def boardForksUptoCard : Claim7 := { stood := { row := boardForksUptoRow, standIns := [], harness := (true, "911f29a6086582fcb013da5481a79d3f063ebe610aff9804d0066d039bfb40c7"), looks := false }, kinds := [], alts := [], laidByText := true, laidKinds := [.data, .data], laidTests := true, laidLooks := .later }
def BoardForksUptoCardSaid : Prop := Claim7.holds Tryd.pinned (.plain (OpenSpec.upto boardForksSpec)) boardForksUptoCard

/-- THE SECOND FORM's CARD OF 'suffragelaw35.BoardExtends'. -/
def boardExtendsUptoCard : Claim7 := { stood := { row := boardExtendsUptoRow, standIns := [], harness := (true, "911f29a6086582fcb013da5481a79d3f063ebe610aff9804d0066d039bfb40c7"), looks := false }, kinds := [], alts := [], laidByText := true, laidKinds := [.data, .data], laidTests := true, laidLooks := .later }
def BoardExtendsUptoCardSaid : Prop := Claim7.holds Tryd.pinned (.plain (OpenSpec.upto boardExtendsSpec)) boardExtendsUptoCard

/-- THE SECOND FORM's CARD OF 'suffragelaw35.BoardHeads'. -/
def boardHeadsUptoCard : Claim7 := { stood := { row := boardHeadsUptoRow, standIns := [], harness := (true, "911f29a6086582fcb013da5481a79d3f063ebe610aff9804d0066d039bfb40c7"), looks := false }, kinds := [], alts := [], laidByText := true, laidKinds := [.data, .data], laidTests := true, laidLooks := .later }
def BoardHeadsUptoCardSaid : Prop := Claim7.holds Tryd.pinned (.plain (OpenSpec.upto boardHeadsSpec)) boardHeadsUptoCard

/-- THE SECOND FORM's CARD OF 'suffragelaw35.BoardProofs'. -/
def boardProofsUptoCard : Claim7 := { stood := { row := boardProofsUptoRow, standIns := [], harness := (true, "911f29a6086582fcb013da5481a79d3f063ebe610aff9804d0066d039bfb40c7"), looks := false }, kinds := [], alts := [], laidByText := true, laidKinds := [.data, .data], laidTests := true, laidLooks := .later }
def BoardProofsUptoCardSaid : Prop := Claim7.holds Tryd.pinned (.plain (OpenSpec.upto boardProofsSpec)) boardProofsUptoCard

/-- THE SECOND FORM's CARD OF 'suffragelaw35.BoardSigned'. -/
def boardSignedUptoCard : Claim7 := { stood := { row := boardSignedUptoRow, standIns := [], harness := (true, "911f29a6086582fcb013da5481a79d3f063ebe610aff9804d0066d039bfb40c7"), looks := false }, kinds := [], alts := [], laidByText := true, laidKinds := [.data, .data], laidTests := true, laidLooks := .later }
def BoardSignedUptoCardSaid : Prop := Claim7.holds Tryd.pinned (.plain (OpenSpec.upto boardSignedSpec)) boardSignedUptoCard
end Rows
end Go.Proofs.YtopaednfjjjnbaaDoor
