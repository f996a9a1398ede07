/-
  DERIVED. GIVEN WITH THE SEED: THE CARDS: each row of YteehmomhaaohhaaDoorRows.lean that lists a variable, with what it lists TIED to the program's text (the seventh form; the later family's looks); each row that meets fmt, with fmt's text TOLD by the authors' own Lean function (tested against real Go, not proved from fmt's source: count such statements apart). THE CARD IS WHAT COUNTS. Prove the row's statement (the work); the ties are given (YteehmomhaaohhaaDoorTie.lean); close each card by the builder's one call (the guide's Derived/Test/ToyasCard.lean, 'card_holds'). Laid BY PROGRAM, IN A SANDBOX (cutbox-door.mjs). By AI agents, Wed Nov 11 2026. No macro, syntax, notation, axiom, sorry.
-/
import Derived.Test.YteehmomhaaohhaaDoorRows
import GoSem.ClaimSeven
namespace Go.Proofs.YteehmomhaaohhaaDoor
namespace Rows

/-- THE TIED CARD OF 'suffragelaw05.DigestCompress'. -/
def digestCompressCard : Claim7 := { stood := { row := digestCompressRow, standIns := [], harness := (true, "c6330f3991a72bc5802ceecc47838bfbb1645d96907ed0dda00f49a9b32b0097"), looks := false }, kinds := [], alts := [], laidByText := true, laidKinds := [.data], laidTests := true, laidLooks := .later }
def DigestCompressCardSaid : Prop := Claim7.holds Tryd.pinned (.plain (OpenSpec.ofChange digestCompressSpec)) digestCompressCard

/-- THE TIED CARD OF 'suffragelaw05.DigestSum'. -/
def digestSumCard : Claim7 := { stood := { row := digestSumRow, standIns := [], harness := (true, "c6330f3991a72bc5802ceecc47838bfbb1645d96907ed0dda00f49a9b32b0097"), looks := false }, kinds := [], alts := [], laidByText := true, laidKinds := [.data, .data], laidTests := true, laidLooks := .later }
def DigestSumCardSaid : Prop := Claim7.holds Tryd.pinned (.plain (OpenSpec.ofChange digestSumSpec)) digestSumCard

/-- THE TIED CARD OF 'suffragelaw05.DigestPads'. -/
def digestPadsCard : Claim7 := { stood := { row := digestPadsRow, standIns := [], harness := (true, "c6330f3991a72bc5802ceecc47838bfbb1645d96907ed0dda00f49a9b32b0097"), looks := false }, kinds := [], alts := [], laidByText := true, laidKinds := [.data, .data], laidTests := true, laidLooks := .later }
def DigestPadsCardSaid : Prop := Claim7.holds Tryd.pinned (.plain (OpenSpec.ofChange digestPadsSpec)) digestPadsCard

/-- THE TIED CARD OF 'suffragelaw05.DigestNames'. -/
def digestNamesCard : Claim7 := { stood := { row := digestNamesRow, standIns := [], harness := (true, "c6330f3991a72bc5802ceecc47838bfbb1645d96907ed0dda00f49a9b32b0097"), looks := false }, kinds := [], alts := [], laidByText := true, laidKinds := [.data, .data], laidTests := true, laidLooks := .later }
def DigestNamesCardSaid : Prop := Claim7.holds Tryd.pinned (.plain (OpenSpec.ofChange digestNamesSpec)) digestNamesCard

/-- THE TIED CARD OF 'suffragelaw05.DigestLimits'. -/
def digestLimitsCard : Claim7 := { stood := { row := digestLimitsRow, standIns := [], harness := (true, "c6330f3991a72bc5802ceecc47838bfbb1645d96907ed0dda00f49a9b32b0097"), looks := false }, kinds := [], alts := [], laidByText := true, laidKinds := [.data, .data], laidTests := true, laidLooks := .later }
def DigestLimitsCardSaid : Prop := Claim7.holds Tryd.pinned (.plain (OpenSpec.ofChange digestLimitsSpec)) digestLimitsCard

/-- THE TIED CARD OF 'suffragelaw05.DigestFolds'. -/
def digestFoldsCard : Claim7 := { stood := { row := digestFoldsRow, standIns := [], harness := (true, "c6330f3991a72bc5802ceecc47838bfbb1645d96907ed0dda00f49a9b32b0097"), looks := false }, kinds := [], alts := [], laidByText := true, laidKinds := [.data, .data], laidTests := true, laidLooks := .later }
def DigestFoldsCardSaid : Prop := Claim7.holds Tryd.pinned (.plain (OpenSpec.ofChange digestFoldsSpec)) digestFoldsCard

/-- THE TIED CARD OF 'suffragelaw05.DigestResumes'. -/
def digestResumesCard : Claim7 := { stood := { row := digestResumesRow, standIns := [], harness := (true, "c6330f3991a72bc5802ceecc47838bfbb1645d96907ed0dda00f49a9b32b0097"), looks := false }, kinds := [], alts := [], laidByText := true, laidKinds := [.data, .data], laidTests := true, laidLooks := .later }
def DigestResumesCardSaid : Prop := Claim7.holds Tryd.pinned (.plain (OpenSpec.ofChange digestResumesSpec)) digestResumesCard

/-- THE TIED CARD OF 'suffragelaw05.DigestNodes'. -/
def digestNodesCard : Claim7 := { stood := { row := digestNodesRow, standIns := [], harness := (true, "c6330f3991a72bc5802ceecc47838bfbb1645d96907ed0dda00f49a9b32b0097"), looks := false }, kinds := [], alts := [], laidByText := true, laidKinds := [.data, .data], laidTests := true, laidLooks := .later }
def DigestNodesCardSaid : Prop := Claim7.holds Tryd.pinned (.plain (OpenSpec.ofChange digestNodesSpec)) digestNodesCard

/-- THE TIED CARD OF 'suffragelaw05.DigestPrefixes'. -/
def digestPrefixesCard : Claim7 := { stood := { row := digestPrefixesRow, standIns := [], harness := (true, "c6330f3991a72bc5802ceecc47838bfbb1645d96907ed0dda00f49a9b32b0097"), looks := false }, kinds := [], alts := [], laidByText := true, laidKinds := [.data, .data], laidTests := true, laidLooks := .later }
def DigestPrefixesCardSaid : Prop := Claim7.holds Tryd.pinned (.plain (OpenSpec.ofChange digestPrefixesSpec)) digestPrefixesCard

/-- THE SECOND FORM's CARD OF 'suffragelaw05.DigestCompress'. -/
def digestCompressUptoCard : Claim7 := { stood := { row := digestCompressUptoRow, standIns := [], harness := (true, "c6330f3991a72bc5802ceecc47838bfbb1645d96907ed0dda00f49a9b32b0097"), looks := false }, kinds := [], alts := [], laidByText := true, laidKinds := [.data], laidTests := true, laidLooks := .later }
def DigestCompressUptoCardSaid : Prop := Claim7.holds Tryd.pinned (.plain (OpenSpec.upto digestCompressSpec)) digestCompressUptoCard

/-- THE SECOND FORM's CARD OF 'suffragelaw05.DigestSum'. -/
def digestSumUptoCard : Claim7 := { stood := { row := digestSumUptoRow, standIns := [], harness := (true, "c6330f3991a72bc5802ceecc47838bfbb1645d96907ed0dda00f49a9b32b0097"), looks := false }, kinds := [], alts := [], laidByText := true, laidKinds := [.data, .data], laidTests := true, laidLooks := .later }
def DigestSumUptoCardSaid : Prop := Claim7.holds Tryd.pinned (.plain (OpenSpec.upto digestSumSpec)) digestSumUptoCard

/-- THE SECOND FORM's CARD OF 'suffragelaw05.DigestPads'. -/
def digestPadsUptoCard : Claim7 := { stood := { row := digestPadsUptoRow, standIns := [], harness := (true, "c6330f3991a72bc5802ceecc47838bfbb1645d96907ed0dda00f49a9b32b0097"), looks := false }, kinds := [], alts := [], laidByText := true, laidKinds := [.data, .data], laidTests := true, laidLooks := .later }
def DigestPadsUptoCardSaid : Prop := Claim7.holds Tryd.pinned (.plain (OpenSpec.upto digestPadsSpec)) digestPadsUptoCard

/-- THE SECOND FORM's CARD OF 'suffragelaw05.DigestNames'. -/
def digestNamesUptoCard : Claim7 := { stood := { row := digestNamesUptoRow, standIns := [], harness := (true, "c6330f3991a72bc5802ceecc47838bfbb1645d96907ed0dda00f49a9b32b0097"), looks := false }, kinds := [], alts := [], laidByText := true, laidKinds := [.data, .data], laidTests := true, laidLooks := .later }
def DigestNamesUptoCardSaid : Prop := Claim7.holds Tryd.pinned (.plain (OpenSpec.upto digestNamesSpec)) digestNamesUptoCard

/-- THE SECOND FORM's CARD OF 'suffragelaw05.DigestLimits'. -/
def digestLimitsUptoCard : Claim7 := { stood := { row := digestLimitsUptoRow, standIns := [], harness := (true, "c6330f3991a72bc5802ceecc47838bfbb1645d96907ed0dda00f49a9b32b0097"), looks := false }, kinds := [], alts := [], laidByText := true, laidKinds := [.data, .data], laidTests := true, laidLooks := .later }
def DigestLimitsUptoCardSaid : Prop := Claim7.holds Tryd.pinned (.plain (OpenSpec.upto digestLimitsSpec)) digestLimitsUptoCard

/-- THE SECOND FORM's CARD OF 'suffragelaw05.DigestFolds'. -/
def digestFoldsUptoCard : Claim7 := { stood := { row := digestFoldsUptoRow, standIns := [], harness := (true, "c6330f3991a72bc5802ceecc47838bfbb1645d96907ed0dda00f49a9b32b0097"), looks := false }, kinds := [], alts := [], laidByText := true, laidKinds := [.data, .data], laidTests := true, laidLooks := .later }
def DigestFoldsUptoCardSaid : Prop := Claim7.holds Tryd.pinned (.plain (OpenSpec.upto digestFoldsSpec)) digestFoldsUptoCard

/-- THE SECOND FORM's CARD OF 'suffragelaw05.DigestResumes'. -/
def digestResumesUptoCard : Claim7 := { stood := { row := digestResumesUptoRow, standIns := [], harness := (true, "c6330f3991a72bc5802ceecc47838bfbb1645d96907ed0dda00f49a9b32b0097"), looks := false }, kinds := [], alts := [], laidByText := true, laidKinds := [.data, .data], laidTests := true, laidLooks := .later }
def DigestResumesUptoCardSaid : Prop := Claim7.holds Tryd.pinned (.plain (OpenSpec.upto digestResumesSpec)) digestResumesUptoCard

/-- THE SECOND FORM's CARD OF 'suffragelaw05.DigestNodes'. -/
def digestNodesUptoCard : Claim7 := { stood := { row := digestNodesUptoRow, standIns := [], harness := (true, "c6330f3991a72bc5802ceecc47838bfbb1645d96907ed0dda00f49a9b32b0097"), looks := false }, kinds := [], alts := [], laidByText := true, laidKinds := [.data, .data], laidTests := true, laidLooks := .later }
def DigestNodesUptoCardSaid : Prop := Claim7.holds Tryd.pinned (.plain (OpenSpec.upto digestNodesSpec)) digestNodesUptoCard

/-- THE SECOND FORM's CARD OF 'suffragelaw05.DigestPrefixes'. -/
def digestPrefixesUptoCard : Claim7 := { stood := { row := digestPrefixesUptoRow, standIns := [], harness := (true, "c6330f3991a72bc5802ceecc47838bfbb1645d96907ed0dda00f49a9b32b0097"), looks := false }, kinds := [], alts := [], laidByText := true, laidKinds := [.data, .data], laidTests := true, laidLooks := .later }
def DigestPrefixesUptoCardSaid : Prop := Claim7.holds Tryd.pinned (.plain (OpenSpec.upto digestPrefixesSpec)) digestPrefixesUptoCard
end Rows
end Go.Proofs.YteehmomhaaohhaaDoor
