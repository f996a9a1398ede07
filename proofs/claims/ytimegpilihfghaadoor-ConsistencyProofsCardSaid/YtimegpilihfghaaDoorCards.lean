/-
  DERIVED. GIVEN WITH THE SEED: THE CARDS: each row of YtimegpilihfghaaDoorRows.lean that lists a variable, with what it lists TIED to the program's text (the seventh form; the later family's looks); each row that meets fmt, with fmt's text TOLD by the authors' own Lean function (tested against real Go, not proved from fmt's source: count such statements apart). THE CARD IS WHAT COUNTS. Prove the row's statement (the work); the ties are given (YtimegpilihfghaaDoorTie.lean); close each card by the builder's one call (the guide's Derived/Test/ToyasCard.lean, 'card_holds'). Laid BY PROGRAM, IN A SANDBOX (cutbox-door.mjs). By AI agents, Wed Nov 11 2026. No macro, syntax, notation, axiom, sorry.
-/
import Derived.Test.YtimegpilihfghaaDoorRows
import GoSem.ClaimSeven
namespace Go.Proofs.YtimegpilihfghaaDoor
namespace Rows

/-- THE TIED CARD OF 'suffragelaw29.ConsistencyRoots'. -/
def consistencyRootsCard : Claim7 := { stood := { row := consistencyRootsRow, standIns := [], harness := (true, "feb59422b7f151abf1c320c025c29354d04e0be324c42d7d1758cb86cb8fd42f"), looks := false }, kinds := [], alts := [], laidByText := true, laidKinds := [.data, .data], laidTests := true, laidLooks := .later }
def ConsistencyRootsCardSaid : Prop := Claim7.holds Tryd.pinned (.plain (OpenSpec.ofChange consistencyRootsSpec)) consistencyRootsCard

/-- THE TIED CARD OF 'suffragelaw29.ConsistencyProofs'. -/
def consistencyProofsCard : Claim7 := { stood := { row := consistencyProofsRow, standIns := [], harness := (true, "feb59422b7f151abf1c320c025c29354d04e0be324c42d7d1758cb86cb8fd42f"), looks := false }, kinds := [], alts := [], laidByText := true, laidKinds := [.data, .data], laidTests := true, laidLooks := .later }
def ConsistencyProofsCardSaid : Prop := Claim7.holds Tryd.pinned (.plain (OpenSpec.ofChange consistencyProofsSpec)) consistencyProofsCard

/-- THE TIED CARD OF 'suffragelaw29.ConsistencyPeaks'. -/
def consistencyPeaksCard : Claim7 := { stood := { row := consistencyPeaksRow, standIns := [], harness := (true, "feb59422b7f151abf1c320c025c29354d04e0be324c42d7d1758cb86cb8fd42f"), looks := false }, kinds := [], alts := [], laidByText := true, laidKinds := [.data, .data], laidTests := true, laidLooks := .later }
def ConsistencyPeaksCardSaid : Prop := Claim7.holds Tryd.pinned (.plain (OpenSpec.ofChange consistencyPeaksSpec)) consistencyPeaksCard

/-- THE TIED CARD OF 'suffragelaw29.ConsistencyAccepts'. -/
def consistencyAcceptsCard : Claim7 := { stood := { row := consistencyAcceptsRow, standIns := [], harness := (true, "feb59422b7f151abf1c320c025c29354d04e0be324c42d7d1758cb86cb8fd42f"), looks := false }, kinds := [], alts := [], laidByText := true, laidKinds := [.data, .data], laidTests := true, laidLooks := .later }
def ConsistencyAcceptsCardSaid : Prop := Claim7.holds Tryd.pinned (.plain (OpenSpec.ofChange consistencyAcceptsSpec)) consistencyAcceptsCard

/-- THE TIED CARD OF 'suffragelaw29.ConsistencyChains'. -/
def consistencyChainsCard : Claim7 := { stood := { row := consistencyChainsRow, standIns := [], harness := (true, "feb59422b7f151abf1c320c025c29354d04e0be324c42d7d1758cb86cb8fd42f"), looks := false }, kinds := [], alts := [], laidByText := true, laidKinds := [.data, .data], laidTests := true, laidLooks := .later }
def ConsistencyChainsCardSaid : Prop := Claim7.holds Tryd.pinned (.plain (OpenSpec.ofChange consistencyChainsSpec)) consistencyChainsCard

/-- THE TIED CARD OF 'suffragelaw29.ConsistencyPrefix'. -/
def consistencyPrefixCard : Claim7 := { stood := { row := consistencyPrefixRow, standIns := [], harness := (true, "feb59422b7f151abf1c320c025c29354d04e0be324c42d7d1758cb86cb8fd42f"), looks := false }, kinds := [], alts := [], laidByText := true, laidKinds := [.data, .data], laidTests := true, laidLooks := .later }
def ConsistencyPrefixCardSaid : Prop := Claim7.holds Tryd.pinned (.plain (OpenSpec.ofChange consistencyPrefixSpec)) consistencyPrefixCard

/-- THE TIED CARD OF 'suffragelaw29.ConsistencyAppends'. -/
def consistencyAppendsCard : Claim7 := { stood := { row := consistencyAppendsRow, standIns := [], harness := (true, "feb59422b7f151abf1c320c025c29354d04e0be324c42d7d1758cb86cb8fd42f"), looks := false }, kinds := [], alts := [], laidByText := true, laidKinds := [.data, .data], laidTests := true, laidLooks := .later }
def ConsistencyAppendsCardSaid : Prop := Claim7.holds Tryd.pinned (.plain (OpenSpec.ofChange consistencyAppendsSpec)) consistencyAppendsCard

/-- THE TIED CARD OF 'suffragelaw29.ConsistencyNames'. -/
def consistencyNamesCard : Claim7 := { stood := { row := consistencyNamesRow, standIns := [], harness := (true, "feb59422b7f151abf1c320c025c29354d04e0be324c42d7d1758cb86cb8fd42f"), looks := false }, kinds := [], alts := [], laidByText := true, laidKinds := [.data, .data], laidTests := true, laidLooks := .later }
def ConsistencyNamesCardSaid : Prop := Claim7.holds Tryd.pinned (.plain (OpenSpec.ofChange consistencyNamesSpec)) consistencyNamesCard

/-- THE SECOND FORM's CARD OF 'suffragelaw29.ConsistencyRoots'. -/
def consistencyRootsUptoCard : Claim7 := { stood := { row := consistencyRootsUptoRow, standIns := [], harness := (true, "feb59422b7f151abf1c320c025c29354d04e0be324c42d7d1758cb86cb8fd42f"), looks := false }, kinds := [], alts := [], laidByText := true, laidKinds := [.data, .data], laidTests := true, laidLooks := .later }
def ConsistencyRootsUptoCardSaid : Prop := Claim7.holds Tryd.pinned (.plain (OpenSpec.upto consistencyRootsSpec)) consistencyRootsUptoCard

/-- THE SECOND FORM's CARD OF 'suffragelaw29.ConsistencyProofs'. -/
def consistencyProofsUptoCard : Claim7 := { stood := { row := consistencyProofsUptoRow, standIns := [], harness := (true, "feb59422b7f151abf1c320c025c29354d04e0be324c42d7d1758cb86cb8fd42f"), looks := false }, kinds := [], alts := [], laidByText := true, laidKinds := [.data, .data], laidTests := true, laidLooks := .later }
def ConsistencyProofsUptoCardSaid : Prop := Claim7.holds Tryd.pinned (.plain (OpenSpec.upto consistencyProofsSpec)) consistencyProofsUptoCard

/-- THE SECOND FORM's CARD OF 'suffragelaw29.ConsistencyPeaks'. -/
def consistencyPeaksUptoCard : Claim7 := { stood := { row := consistencyPeaksUptoRow, standIns := [], harness := (true, "feb59422b7f151abf1c320c025c29354d04e0be324c42d7d1758cb86cb8fd42f"), looks := false }, kinds := [], alts := [], laidByText := true, laidKinds := [.data, .data], laidTests := true, laidLooks := .later }
def ConsistencyPeaksUptoCardSaid : Prop := Claim7.holds Tryd.pinned (.plain (OpenSpec.upto consistencyPeaksSpec)) consistencyPeaksUptoCard

/-- THE SECOND FORM's CARD OF 'suffragelaw29.ConsistencyAccepts'. -/
def consistencyAcceptsUptoCard : Claim7 := { stood := { row := consistencyAcceptsUptoRow, standIns := [], harness := (true, "feb59422b7f151abf1c320c025c29354d04e0be324c42d7d1758cb86cb8fd42f"), looks := false }, kinds := [], alts := [], laidByText := true, laidKinds := [.data, .data], laidTests := true, laidLooks := .later }
def ConsistencyAcceptsUptoCardSaid : Prop := Claim7.holds Tryd.pinned (.plain (OpenSpec.upto consistencyAcceptsSpec)) consistencyAcceptsUptoCard

/-- THE SECOND FORM's CARD OF 'suffragelaw29.ConsistencyChains'. -/
def consistencyChainsUptoCard : Claim7 := { stood := { row := consistencyChainsUptoRow, standIns := [], harness := (true, "feb59422b7f151abf1c320c025c29354d04e0be324c42d7d1758cb86cb8fd42f"), looks := false }, kinds := [], alts := [], laidByText := true, laidKinds := [.data, .data], laidTests := true, laidLooks := .later }
def ConsistencyChainsUptoCardSaid : Prop := Claim7.holds Tryd.pinned (.plain (OpenSpec.upto consistencyChainsSpec)) consistencyChainsUptoCard

/-- THE SECOND FORM's CARD OF 'suffragelaw29.ConsistencyPrefix'. -/
def consistencyPrefixUptoCard : Claim7 := { stood := { row := consistencyPrefixUptoRow, standIns := [], harness := (true, "feb59422b7f151abf1c320c025c29354d04e0be324c42d7d1758cb86cb8fd42f"), looks := false }, kinds := [], alts := [], laidByText := true, laidKinds := [.data, .data], laidTests := true, laidLooks := .later }
def ConsistencyPrefixUptoCardSaid : Prop := Claim7.holds Tryd.pinned (.plain (OpenSpec.upto consistencyPrefixSpec)) consistencyPrefixUptoCard

/-- THE SECOND FORM's CARD OF 'suffragelaw29.ConsistencyAppends'. -/
def consistencyAppendsUptoCard : Claim7 := { stood := { row := consistencyAppendsUptoRow, standIns := [], harness := (true, "feb59422b7f151abf1c320c025c29354d04e0be324c42d7d1758cb86cb8fd42f"), looks := false }, kinds := [], alts := [], laidByText := true, laidKinds := [.data, .data], laidTests := true, laidLooks := .later }
def ConsistencyAppendsUptoCardSaid : Prop := Claim7.holds Tryd.pinned (.plain (OpenSpec.upto consistencyAppendsSpec)) consistencyAppendsUptoCard

/-- THE SECOND FORM's CARD OF 'suffragelaw29.ConsistencyNames'. -/
def consistencyNamesUptoCard : Claim7 := { stood := { row := consistencyNamesUptoRow, standIns := [], harness := (true, "feb59422b7f151abf1c320c025c29354d04e0be324c42d7d1758cb86cb8fd42f"), looks := false }, kinds := [], alts := [], laidByText := true, laidKinds := [.data, .data], laidTests := true, laidLooks := .later }
def ConsistencyNamesUptoCardSaid : Prop := Claim7.holds Tryd.pinned (.plain (OpenSpec.upto consistencyNamesSpec)) consistencyNamesUptoCard
end Rows
end Go.Proofs.YtimegpilihfghaaDoor
