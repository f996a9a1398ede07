/-
  DERIVED. GIVEN WITH THE SEED: THE CARDS: each row of YtebinlinhmohbaaDoorRows.lean that lists a variable, with what it lists TIED to the program's text (the seventh form; the later family's looks); each row that meets fmt, with fmt's text TOLD by the authors' own Lean function (tested against real Go, not proved from fmt's source: count such statements apart). THE CARD IS WHAT COUNTS. Prove the row's statement (the work); the ties are given (YtebinlinhmohbaaDoorTie.lean); close each card by the builder's one call (the guide's Derived/Test/ToyasCard.lean, 'card_holds'). Laid BY PROGRAM, IN A SANDBOX (cutbox-door.mjs). By AI agents, Wed Nov 11 2026. No macro, syntax, notation, axiom, sorry.
-/
import Derived.Test.YtebinlinhmohbaaDoorRows
import GoSem.ClaimSeven
namespace Go.Proofs.YtebinlinhmohbaaDoor
namespace Rows

/-- THE TIED CARD OF 'suffragelaw28.MerklePaths'. -/
def merklePathsCard : Claim7 := { stood := { row := merklePathsRow, standIns := [], harness := (true, "df17c54ba0ff6f2cf6acc50b0e1cc40acbd8941bbc705bb0f100dd0d63c25a35"), looks := false }, kinds := [], alts := [], laidByText := true, laidKinds := [.data, .data], laidTests := true, laidLooks := .later }
def MerklePathsCardSaid : Prop := Claim7.holds Tryd.pinned (.plain (OpenSpec.ofChange merklePathsSpec)) merklePathsCard

/-- THE TIED CARD OF 'suffragelaw28.MerkleTrees'. -/
def merkleTreesCard : Claim7 := { stood := { row := merkleTreesRow, standIns := [], harness := (true, "df17c54ba0ff6f2cf6acc50b0e1cc40acbd8941bbc705bb0f100dd0d63c25a35"), looks := false }, kinds := [], alts := [], laidByText := true, laidKinds := [.data, .data], laidTests := true, laidLooks := .later }
def MerkleTreesCardSaid : Prop := Claim7.holds Tryd.pinned (.plain (OpenSpec.ofChange merkleTreesSpec)) merkleTreesCard

/-- THE TIED CARD OF 'suffragelaw28.MerkleParts'. -/
def merklePartsCard : Claim7 := { stood := { row := merklePartsRow, standIns := [], harness := (true, "df17c54ba0ff6f2cf6acc50b0e1cc40acbd8941bbc705bb0f100dd0d63c25a35"), looks := false }, kinds := [], alts := [], laidByText := true, laidKinds := [.data, .data], laidTests := true, laidLooks := .later }
def MerklePartsCardSaid : Prop := Claim7.holds Tryd.pinned (.plain (OpenSpec.ofChange merklePartsSpec)) merklePartsCard

/-- THE TIED CARD OF 'suffragelaw28.MerkleLists'. -/
def merkleListsCard : Claim7 := { stood := { row := merkleListsRow, standIns := [], harness := (true, "df17c54ba0ff6f2cf6acc50b0e1cc40acbd8941bbc705bb0f100dd0d63c25a35"), looks := false }, kinds := [], alts := [], laidByText := true, laidKinds := [.data, .data], laidTests := true, laidLooks := .later }
def MerkleListsCardSaid : Prop := Claim7.holds Tryd.pinned (.plain (OpenSpec.ofChange merkleListsSpec)) merkleListsCard

/-- THE TIED CARD OF 'suffragelaw28.MerkleNames'. -/
def merkleNamesCard : Claim7 := { stood := { row := merkleNamesRow, standIns := [], harness := (true, "df17c54ba0ff6f2cf6acc50b0e1cc40acbd8941bbc705bb0f100dd0d63c25a35"), looks := false }, kinds := [], alts := [], laidByText := true, laidKinds := [.data, .data], laidTests := true, laidLooks := .later }
def MerkleNamesCardSaid : Prop := Claim7.holds Tryd.pinned (.plain (OpenSpec.ofChange merkleNamesSpec)) merkleNamesCard

/-- THE TIED CARD OF 'suffragelaw28.MerkleFollows'. -/
def merkleFollowsCard : Claim7 := { stood := { row := merkleFollowsRow, standIns := [], harness := (true, "df17c54ba0ff6f2cf6acc50b0e1cc40acbd8941bbc705bb0f100dd0d63c25a35"), looks := false }, kinds := [], alts := [], laidByText := true, laidKinds := [.data, .data], laidTests := true, laidLooks := .later }
def MerkleFollowsCardSaid : Prop := Claim7.holds Tryd.pinned (.plain (OpenSpec.ofChange merkleFollowsSpec)) merkleFollowsCard

/-- THE TIED CARD OF 'suffragelaw28.MerkleReplaces'. -/
def merkleReplacesCard : Claim7 := { stood := { row := merkleReplacesRow, standIns := [], harness := (true, "df17c54ba0ff6f2cf6acc50b0e1cc40acbd8941bbc705bb0f100dd0d63c25a35"), looks := false }, kinds := [], alts := [], laidByText := true, laidKinds := [.data, .data], laidTests := true, laidLooks := .later }
def MerkleReplacesCardSaid : Prop := Claim7.holds Tryd.pinned (.plain (OpenSpec.ofChange merkleReplacesSpec)) merkleReplacesCard

/-- THE TIED CARD OF 'suffragelaw28.MerkleBinds'. -/
def merkleBindsCard : Claim7 := { stood := { row := merkleBindsRow, standIns := [], harness := (true, "df17c54ba0ff6f2cf6acc50b0e1cc40acbd8941bbc705bb0f100dd0d63c25a35"), looks := false }, kinds := [], alts := [], laidByText := true, laidKinds := [.data, .data], laidTests := true, laidLooks := .later }
def MerkleBindsCardSaid : Prop := Claim7.holds Tryd.pinned (.plain (OpenSpec.ofChange merkleBindsSpec)) merkleBindsCard

/-- THE SECOND FORM's CARD OF 'suffragelaw28.MerklePaths'. -/
def merklePathsUptoCard : Claim7 := { stood := { row := merklePathsUptoRow, standIns := [], harness := (true, "df17c54ba0ff6f2cf6acc50b0e1cc40acbd8941bbc705bb0f100dd0d63c25a35"), looks := false }, kinds := [], alts := [], laidByText := true, laidKinds := [.data, .data], laidTests := true, laidLooks := .later }
def MerklePathsUptoCardSaid : Prop := Claim7.holds Tryd.pinned (.plain (OpenSpec.upto merklePathsSpec)) merklePathsUptoCard

/-- THE SECOND FORM's CARD OF 'suffragelaw28.MerkleTrees'. -/
def merkleTreesUptoCard : Claim7 := { stood := { row := merkleTreesUptoRow, standIns := [], harness := (true, "df17c54ba0ff6f2cf6acc50b0e1cc40acbd8941bbc705bb0f100dd0d63c25a35"), looks := false }, kinds := [], alts := [], laidByText := true, laidKinds := [.data, .data], laidTests := true, laidLooks := .later }
def MerkleTreesUptoCardSaid : Prop := Claim7.holds Tryd.pinned (.plain (OpenSpec.upto merkleTreesSpec)) merkleTreesUptoCard

/-- THE SECOND FORM's CARD OF 'suffragelaw28.MerkleParts'. -/
def merklePartsUptoCard : Claim7 := { stood := { row := merklePartsUptoRow, standIns := [], harness := (true, "df17c54ba0ff6f2cf6acc50b0e1cc40acbd8941bbc705bb0f100dd0d63c25a35"), looks := false }, kinds := [], alts := [], laidByText := true, laidKinds := [.data, .data], laidTests := true, laidLooks := .later }
def MerklePartsUptoCardSaid : Prop := Claim7.holds Tryd.pinned (.plain (OpenSpec.upto merklePartsSpec)) merklePartsUptoCard

/-- THE SECOND FORM's CARD OF 'suffragelaw28.MerkleLists'. -/
def merkleListsUptoCard : Claim7 := { stood := { row := merkleListsUptoRow, standIns := [], harness := (true, "df17c54ba0ff6f2cf6acc50b0e1cc40acbd8941bbc705bb0f100dd0d63c25a35"), looks := false }, kinds := [], alts := [], laidByText := true, laidKinds := [.data, .data], laidTests := true, laidLooks := .later }
def MerkleListsUptoCardSaid : Prop := Claim7.holds Tryd.pinned (.plain (OpenSpec.upto merkleListsSpec)) merkleListsUptoCard

/-- THE SECOND FORM's CARD OF 'suffragelaw28.MerkleNames'. -/
def merkleNamesUptoCard : Claim7 := { stood := { row := merkleNamesUptoRow, standIns := [], harness := (true, "df17c54ba0ff6f2cf6acc50b0e1cc40acbd8941bbc705bb0f100dd0d63c25a35"), looks := false }, kinds := [], alts := [], laidByText := true, laidKinds := [.data, .data], laidTests := true, laidLooks := .later }
def MerkleNamesUptoCardSaid : Prop := Claim7.holds Tryd.pinned (.plain (OpenSpec.upto merkleNamesSpec)) merkleNamesUptoCard

/-- THE SECOND FORM's CARD OF 'suffragelaw28.MerkleFollows'. -/
def merkleFollowsUptoCard : Claim7 := { stood := { row := merkleFollowsUptoRow, standIns := [], harness := (true, "df17c54ba0ff6f2cf6acc50b0e1cc40acbd8941bbc705bb0f100dd0d63c25a35"), looks := false }, kinds := [], alts := [], laidByText := true, laidKinds := [.data, .data], laidTests := true, laidLooks := .later }
def MerkleFollowsUptoCardSaid : Prop := Claim7.holds Tryd.pinned (.plain (OpenSpec.upto merkleFollowsSpec)) merkleFollowsUptoCard

/-- THE SECOND FORM's CARD OF 'suffragelaw28.MerkleReplaces'. -/
def merkleReplacesUptoCard : Claim7 := { stood := { row := merkleReplacesUptoRow, standIns := [], harness := (true, "df17c54ba0ff6f2cf6acc50b0e1cc40acbd8941bbc705bb0f100dd0d63c25a35"), looks := false }, kinds := [], alts := [], laidByText := true, laidKinds := [.data, .data], laidTests := true, laidLooks := .later }
def MerkleReplacesUptoCardSaid : Prop := Claim7.holds Tryd.pinned (.plain (OpenSpec.upto merkleReplacesSpec)) merkleReplacesUptoCard

/-- THE SECOND FORM's CARD OF 'suffragelaw28.MerkleBinds'. -/
def merkleBindsUptoCard : Claim7 := { stood := { row := merkleBindsUptoRow, standIns := [], harness := (true, "df17c54ba0ff6f2cf6acc50b0e1cc40acbd8941bbc705bb0f100dd0d63c25a35"), looks := false }, kinds := [], alts := [], laidByText := true, laidKinds := [.data, .data], laidTests := true, laidLooks := .later }
def MerkleBindsUptoCardSaid : Prop := Claim7.holds Tryd.pinned (.plain (OpenSpec.upto merkleBindsSpec)) merkleBindsUptoCard
end Rows
end Go.Proofs.YtebinlinhmohbaaDoor
