/-
  DERIVED. GIVEN WITH THE SEED: THE CARDS: each row of YtjjoenbighmfoaaDoorRows.lean that lists a variable, with what it lists TIED to the program's text (the seventh form; the later family's looks); each row that meets fmt, with fmt's text TOLD by the authors' own Lean function (tested against real Go, not proved from fmt's source: count such statements apart). THE CARD IS WHAT COUNTS. Prove the row's statement (the work); the ties are given (YtjjoenbighmfoaaDoorTie.lean); close each card by the builder's one call (the guide's Derived/Test/ToyasCard.lean, 'card_holds'). Laid BY PROGRAM, IN A SANDBOX (cutbox-door.mjs). By AI agents, Wed Nov 11 2026. No macro, syntax, notation, axiom, sorry.
-/
import Derived.Test.YtjjoenbighmfoaaDoorRows
import GoSem.ClaimSeven
namespace Go.Proofs.YtjjoenbighmfoaaDoor
namespace Rows

/-- THE TIED CARD OF 'suffragelaw38.SampleUnique'. -/
def sampleUniqueCard : Claim7 := { stood := { row := sampleUniqueRow, standIns := [], harness := (true, "2dd194a658d2f6d30480360a548f74a15b06958876f23445ce744d10c0bf038c"), looks := false }, kinds := [], alts := [], laidByText := true, laidKinds := [.data, .data], laidTests := true, laidLooks := .later }
def SampleUniqueCardSaid : Prop := Claim7.holds Tryd.pinned (.plain (OpenSpec.ofChange sampleUniqueSpec)) sampleUniqueCard

/-- THE TIED CARD OF 'suffragelaw38.SampleExamples'. -/
def sampleExamplesCard : Claim7 := { stood := { row := sampleExamplesRow, standIns := [], harness := (true, "2dd194a658d2f6d30480360a548f74a15b06958876f23445ce744d10c0bf038c"), looks := false }, kinds := [], alts := [], laidByText := true, laidKinds := [.data, .data], laidTests := true, laidLooks := .later }
def SampleExamplesCardSaid : Prop := Claim7.holds Tryd.pinned (.plain (OpenSpec.ofChange sampleExamplesSpec)) sampleExamplesCard

/-- THE TIED CARD OF 'suffragelaw38.SampleMatches'. -/
def sampleMatchesCard : Claim7 := { stood := { row := sampleMatchesRow, standIns := [], harness := (true, "2dd194a658d2f6d30480360a548f74a15b06958876f23445ce744d10c0bf038c"), looks := false }, kinds := [], alts := [], laidByText := true, laidKinds := [.data, .data], laidTests := true, laidLooks := .later }
def SampleMatchesCardSaid : Prop := Claim7.holds Tryd.pinned (.plain (OpenSpec.ofChange sampleMatchesSpec)) sampleMatchesCard

/-- THE TIED CARD OF 'suffragelaw38.SamplePositionsMatch'. -/
def samplePositionsMatchCard : Claim7 := { stood := { row := samplePositionsMatchRow, standIns := [], harness := (true, "2dd194a658d2f6d30480360a548f74a15b06958876f23445ce744d10c0bf038c"), looks := false }, kinds := [], alts := [], laidByText := true, laidKinds := [.data, .data], laidTests := true, laidLooks := .later }
def SamplePositionsMatchCardSaid : Prop := Claim7.holds Tryd.pinned (.plain (OpenSpec.ofChange samplePositionsMatchSpec)) samplePositionsMatchCard

/-- THE TIED CARD OF 'suffragelaw38.SampleNumbering'. -/
def sampleNumberingCard : Claim7 := { stood := { row := sampleNumberingRow, standIns := [], harness := (true, "2dd194a658d2f6d30480360a548f74a15b06958876f23445ce744d10c0bf038c"), looks := false }, kinds := [], alts := [], laidByText := true, laidKinds := [.data, .data], laidTests := true, laidLooks := .later }
def SampleNumberingCardSaid : Prop := Claim7.holds Tryd.pinned (.plain (OpenSpec.ofChange sampleNumberingSpec)) sampleNumberingCard

/-- THE TIED CARD OF 'suffragelaw38.SamplePrefix'. -/
def samplePrefixCard : Claim7 := { stood := { row := samplePrefixRow, standIns := [], harness := (true, "2dd194a658d2f6d30480360a548f74a15b06958876f23445ce744d10c0bf038c"), looks := false }, kinds := [], alts := [], laidByText := true, laidKinds := [.data, .data], laidTests := true, laidLooks := .later }
def SamplePrefixCardSaid : Prop := Claim7.holds Tryd.pinned (.plain (OpenSpec.ofChange samplePrefixSpec)) samplePrefixCard

/-- THE TIED CARD OF 'suffragelaw38.SampleSplit'. -/
def sampleSplitCard : Claim7 := { stood := { row := sampleSplitRow, standIns := [], harness := (true, "2dd194a658d2f6d30480360a548f74a15b06958876f23445ce744d10c0bf038c"), looks := false }, kinds := [], alts := [], laidByText := true, laidKinds := [.data, .data], laidTests := true, laidLooks := .later }
def SampleSplitCardSaid : Prop := Claim7.holds Tryd.pinned (.plain (OpenSpec.ofChange sampleSplitSpec)) sampleSplitCard

/-- THE SECOND FORM's CARD OF 'suffragelaw38.SampleUnique'. -/
def sampleUniqueUptoCard : Claim7 := { stood := { row := sampleUniqueUptoRow, standIns := [], harness := (true, "2dd194a658d2f6d30480360a548f74a15b06958876f23445ce744d10c0bf038c"), looks := false }, kinds := [], alts := [], laidByText := true, laidKinds := [.data, .data], laidTests := true, laidLooks := .later }
def SampleUniqueUptoCardSaid : Prop := Claim7.holds Tryd.pinned (.plain (OpenSpec.upto sampleUniqueSpec)) sampleUniqueUptoCard

/-- THE SECOND FORM's CARD OF 'suffragelaw38.SampleExamples'. -/
def sampleExamplesUptoCard : Claim7 := { stood := { row := sampleExamplesUptoRow, standIns := [], harness := (true, "2dd194a658d2f6d30480360a548f74a15b06958876f23445ce744d10c0bf038c"), looks := false }, kinds := [], alts := [], laidByText := true, laidKinds := [.data, .data], laidTests := true, laidLooks := .later }
def SampleExamplesUptoCardSaid : Prop := Claim7.holds Tryd.pinned (.plain (OpenSpec.upto sampleExamplesSpec)) sampleExamplesUptoCard

/-- THE SECOND FORM's CARD OF 'suffragelaw38.SampleMatches'. -/
def sampleMatchesUptoCard : Claim7 := { stood := { row := sampleMatchesUptoRow, standIns := [], harness := (true, "2dd194a658d2f6d30480360a548f74a15b06958876f23445ce744d10c0bf038c"), looks := false }, kinds := [], alts := [], laidByText := true, laidKinds := [.data, .data], laidTests := true, laidLooks := .later }
def SampleMatchesUptoCardSaid : Prop := Claim7.holds Tryd.pinned (.plain (OpenSpec.upto sampleMatchesSpec)) sampleMatchesUptoCard

/-- THE SECOND FORM's CARD OF 'suffragelaw38.SamplePositionsMatch'. -/
def samplePositionsMatchUptoCard : Claim7 := { stood := { row := samplePositionsMatchUptoRow, standIns := [], harness := (true, "2dd194a658d2f6d30480360a548f74a15b06958876f23445ce744d10c0bf038c"), looks := false }, kinds := [], alts := [], laidByText := true, laidKinds := [.data, .data], laidTests := true, laidLooks := .later }
def SamplePositionsMatchUptoCardSaid : Prop := Claim7.holds Tryd.pinned (.plain (OpenSpec.upto samplePositionsMatchSpec)) samplePositionsMatchUptoCard

/-- THE SECOND FORM's CARD OF 'suffragelaw38.SampleNumbering'. -/
def sampleNumberingUptoCard : Claim7 := { stood := { row := sampleNumberingUptoRow, standIns := [], harness := (true, "2dd194a658d2f6d30480360a548f74a15b06958876f23445ce744d10c0bf038c"), looks := false }, kinds := [], alts := [], laidByText := true, laidKinds := [.data, .data], laidTests := true, laidLooks := .later }
def SampleNumberingUptoCardSaid : Prop := Claim7.holds Tryd.pinned (.plain (OpenSpec.upto sampleNumberingSpec)) sampleNumberingUptoCard

/-- THE SECOND FORM's CARD OF 'suffragelaw38.SamplePrefix'. -/
def samplePrefixUptoCard : Claim7 := { stood := { row := samplePrefixUptoRow, standIns := [], harness := (true, "2dd194a658d2f6d30480360a548f74a15b06958876f23445ce744d10c0bf038c"), looks := false }, kinds := [], alts := [], laidByText := true, laidKinds := [.data, .data], laidTests := true, laidLooks := .later }
def SamplePrefixUptoCardSaid : Prop := Claim7.holds Tryd.pinned (.plain (OpenSpec.upto samplePrefixSpec)) samplePrefixUptoCard

/-- THE SECOND FORM's CARD OF 'suffragelaw38.SampleSplit'. -/
def sampleSplitUptoCard : Claim7 := { stood := { row := sampleSplitUptoRow, standIns := [], harness := (true, "2dd194a658d2f6d30480360a548f74a15b06958876f23445ce744d10c0bf038c"), looks := false }, kinds := [], alts := [], laidByText := true, laidKinds := [.data, .data], laidTests := true, laidLooks := .later }
def SampleSplitUptoCardSaid : Prop := Claim7.holds Tryd.pinned (.plain (OpenSpec.upto sampleSplitSpec)) sampleSplitUptoCard
end Rows
end Go.Proofs.YtjjoenbighmfoaaDoor
