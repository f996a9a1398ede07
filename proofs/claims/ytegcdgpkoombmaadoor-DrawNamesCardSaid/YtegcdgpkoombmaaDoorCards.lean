/-
  DERIVED. GIVEN WITH THE SEED: THE CARDS: each row of YtegcdgpkoombmaaDoorRows.lean that lists a variable, with what it lists TIED to the program's text (the seventh form; the later family's looks); each row that meets fmt, with fmt's text TOLD by the authors' own Lean function (tested against real Go, not proved from fmt's source: count such statements apart). THE CARD IS WHAT COUNTS. Prove the row's statement (the work); the ties are given (YtegcdgpkoombmaaDoorTie.lean); close each card by the builder's one call (the guide's Derived/Test/ToyasCard.lean, 'card_holds'). Laid BY PROGRAM, IN A SANDBOX (cutbox-door.mjs). By AI agents, Wed Nov 11 2026. No macro, syntax, notation, axiom, sorry.
-/
import Derived.Test.YtegcdgpkoombmaaDoorRows
import GoSem.ClaimSeven
namespace Go.Proofs.YtegcdgpkoombmaaDoor
namespace Rows

/-- THE TIED CARD OF 'suffragelaw06.DrawMixes'. -/
def drawMixesCard : Claim7 := { stood := { row := drawMixesRow, standIns := [], harness := (true, "0f437ddcacb1040ae426ca26cd50e95a53cec8c763447adf0d2d7426ae78e070"), looks := false }, kinds := [], alts := [], laidByText := true, laidKinds := [.data, .data], laidTests := true, laidLooks := .later }
def DrawMixesCardSaid : Prop := Claim7.holds Tryd.pinned (.plain (OpenSpec.ofChange drawMixesSpec)) drawMixesCard

/-- THE TIED CARD OF 'suffragelaw06.DrawTells'. -/
def drawTellsCard : Claim7 := { stood := { row := drawTellsRow, standIns := [], harness := (true, "0f437ddcacb1040ae426ca26cd50e95a53cec8c763447adf0d2d7426ae78e070"), looks := false }, kinds := [], alts := [], laidByText := true, laidKinds := [.data, .data], laidTests := true, laidLooks := .later }
def DrawTellsCardSaid : Prop := Claim7.holds Tryd.pinned (.plain (OpenSpec.ofChange drawTellsSpec)) drawTellsCard

/-- THE TIED CARD OF 'suffragelaw06.DrawSamples'. -/
def drawSamplesCard : Claim7 := { stood := { row := drawSamplesRow, standIns := [], harness := (true, "0f437ddcacb1040ae426ca26cd50e95a53cec8c763447adf0d2d7426ae78e070"), looks := false }, kinds := [], alts := [], laidByText := true, laidKinds := [.data, .data], laidTests := true, laidLooks := .later }
def DrawSamplesCardSaid : Prop := Claim7.holds Tryd.pinned (.plain (OpenSpec.ofChange drawSamplesSpec)) drawSamplesCard

/-- THE TIED CARD OF 'suffragelaw06.DrawLots'. -/
def drawLotsCard : Claim7 := { stood := { row := drawLotsRow, standIns := [], harness := (true, "0f437ddcacb1040ae426ca26cd50e95a53cec8c763447adf0d2d7426ae78e070"), looks := false }, kinds := [], alts := [], laidByText := true, laidKinds := [.data, .data], laidTests := true, laidLooks := .later }
def DrawLotsCardSaid : Prop := Claim7.holds Tryd.pinned (.plain (OpenSpec.ofChange drawLotsSpec)) drawLotsCard

/-- THE TIED CARD OF 'suffragelaw06.DrawPerm'. -/
def drawPermCard : Claim7 := { stood := { row := drawPermRow, standIns := [], harness := (true, "0f437ddcacb1040ae426ca26cd50e95a53cec8c763447adf0d2d7426ae78e070"), looks := false }, kinds := [], alts := [], laidByText := true, laidKinds := [.data, .data], laidTests := true, laidLooks := .later }
def DrawPermCardSaid : Prop := Claim7.holds Tryd.pinned (.plain (OpenSpec.ofChange drawPermSpec)) drawPermCard

/-- THE TIED CARD OF 'suffragelaw06.DrawFronts'. -/
def drawFrontsCard : Claim7 := { stood := { row := drawFrontsRow, standIns := [], harness := (true, "0f437ddcacb1040ae426ca26cd50e95a53cec8c763447adf0d2d7426ae78e070"), looks := false }, kinds := [], alts := [], laidByText := true, laidKinds := [.data, .data], laidTests := true, laidLooks := .later }
def DrawFrontsCardSaid : Prop := Claim7.holds Tryd.pinned (.plain (OpenSpec.ofChange drawFrontsSpec)) drawFrontsCard

/-- THE TIED CARD OF 'suffragelaw06.DrawFirst'. -/
def drawFirstCard : Claim7 := { stood := { row := drawFirstRow, standIns := [], harness := (true, "0f437ddcacb1040ae426ca26cd50e95a53cec8c763447adf0d2d7426ae78e070"), looks := false }, kinds := [], alts := [], laidByText := true, laidKinds := [.data, .data], laidTests := true, laidLooks := .later }
def DrawFirstCardSaid : Prop := Claim7.holds Tryd.pinned (.plain (OpenSpec.ofChange drawFirstSpec)) drawFirstCard

/-- THE TIED CARD OF 'suffragelaw06.DrawNames'. -/
def drawNamesCard : Claim7 := { stood := { row := drawNamesRow, standIns := [], harness := (true, "0f437ddcacb1040ae426ca26cd50e95a53cec8c763447adf0d2d7426ae78e070"), looks := false }, kinds := [], alts := [], laidByText := true, laidKinds := [.data, .data], laidTests := true, laidLooks := .later }
def DrawNamesCardSaid : Prop := Claim7.holds Tryd.pinned (.plain (OpenSpec.ofChange drawNamesSpec)) drawNamesCard

/-- THE SECOND FORM's CARD OF 'suffragelaw06.DrawMixes'. -/
def drawMixesUptoCard : Claim7 := { stood := { row := drawMixesUptoRow, standIns := [], harness := (true, "0f437ddcacb1040ae426ca26cd50e95a53cec8c763447adf0d2d7426ae78e070"), looks := false }, kinds := [], alts := [], laidByText := true, laidKinds := [.data, .data], laidTests := true, laidLooks := .later }
def DrawMixesUptoCardSaid : Prop := Claim7.holds Tryd.pinned (.plain (OpenSpec.upto drawMixesSpec)) drawMixesUptoCard

/-- THE SECOND FORM's CARD OF 'suffragelaw06.DrawTells'. -/
def drawTellsUptoCard : Claim7 := { stood := { row := drawTellsUptoRow, standIns := [], harness := (true, "0f437ddcacb1040ae426ca26cd50e95a53cec8c763447adf0d2d7426ae78e070"), looks := false }, kinds := [], alts := [], laidByText := true, laidKinds := [.data, .data], laidTests := true, laidLooks := .later }
def DrawTellsUptoCardSaid : Prop := Claim7.holds Tryd.pinned (.plain (OpenSpec.upto drawTellsSpec)) drawTellsUptoCard

/-- THE SECOND FORM's CARD OF 'suffragelaw06.DrawSamples'. -/
def drawSamplesUptoCard : Claim7 := { stood := { row := drawSamplesUptoRow, standIns := [], harness := (true, "0f437ddcacb1040ae426ca26cd50e95a53cec8c763447adf0d2d7426ae78e070"), looks := false }, kinds := [], alts := [], laidByText := true, laidKinds := [.data, .data], laidTests := true, laidLooks := .later }
def DrawSamplesUptoCardSaid : Prop := Claim7.holds Tryd.pinned (.plain (OpenSpec.upto drawSamplesSpec)) drawSamplesUptoCard

/-- THE SECOND FORM's CARD OF 'suffragelaw06.DrawLots'. -/
def drawLotsUptoCard : Claim7 := { stood := { row := drawLotsUptoRow, standIns := [], harness := (true, "0f437ddcacb1040ae426ca26cd50e95a53cec8c763447adf0d2d7426ae78e070"), looks := false }, kinds := [], alts := [], laidByText := true, laidKinds := [.data, .data], laidTests := true, laidLooks := .later }
def DrawLotsUptoCardSaid : Prop := Claim7.holds Tryd.pinned (.plain (OpenSpec.upto drawLotsSpec)) drawLotsUptoCard

/-- THE SECOND FORM's CARD OF 'suffragelaw06.DrawPerm'. -/
def drawPermUptoCard : Claim7 := { stood := { row := drawPermUptoRow, standIns := [], harness := (true, "0f437ddcacb1040ae426ca26cd50e95a53cec8c763447adf0d2d7426ae78e070"), looks := false }, kinds := [], alts := [], laidByText := true, laidKinds := [.data, .data], laidTests := true, laidLooks := .later }
def DrawPermUptoCardSaid : Prop := Claim7.holds Tryd.pinned (.plain (OpenSpec.upto drawPermSpec)) drawPermUptoCard

/-- THE SECOND FORM's CARD OF 'suffragelaw06.DrawFronts'. -/
def drawFrontsUptoCard : Claim7 := { stood := { row := drawFrontsUptoRow, standIns := [], harness := (true, "0f437ddcacb1040ae426ca26cd50e95a53cec8c763447adf0d2d7426ae78e070"), looks := false }, kinds := [], alts := [], laidByText := true, laidKinds := [.data, .data], laidTests := true, laidLooks := .later }
def DrawFrontsUptoCardSaid : Prop := Claim7.holds Tryd.pinned (.plain (OpenSpec.upto drawFrontsSpec)) drawFrontsUptoCard

/-- THE SECOND FORM's CARD OF 'suffragelaw06.DrawFirst'. -/
def drawFirstUptoCard : Claim7 := { stood := { row := drawFirstUptoRow, standIns := [], harness := (true, "0f437ddcacb1040ae426ca26cd50e95a53cec8c763447adf0d2d7426ae78e070"), looks := false }, kinds := [], alts := [], laidByText := true, laidKinds := [.data, .data], laidTests := true, laidLooks := .later }
def DrawFirstUptoCardSaid : Prop := Claim7.holds Tryd.pinned (.plain (OpenSpec.upto drawFirstSpec)) drawFirstUptoCard

/-- THE SECOND FORM's CARD OF 'suffragelaw06.DrawNames'. -/
def drawNamesUptoCard : Claim7 := { stood := { row := drawNamesUptoRow, standIns := [], harness := (true, "0f437ddcacb1040ae426ca26cd50e95a53cec8c763447adf0d2d7426ae78e070"), looks := false }, kinds := [], alts := [], laidByText := true, laidKinds := [.data, .data], laidTests := true, laidLooks := .later }
def DrawNamesUptoCardSaid : Prop := Claim7.holds Tryd.pinned (.plain (OpenSpec.upto drawNamesSpec)) drawNamesUptoCard
end Rows
end Go.Proofs.YtegcdgpkoombmaaDoor
