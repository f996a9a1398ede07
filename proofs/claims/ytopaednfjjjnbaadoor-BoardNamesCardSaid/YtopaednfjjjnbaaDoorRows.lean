/-
  NARROWER THAN 'FOR EVERY INPUT', by the rows' own cells (each row's printed sentence says how): BoardNames: laid · BoardKeeps: laid · BoardTells: laid · BoardIncludes: laid · BoardForks: laid · BoardExtends: laid · BoardHeads: laid · BoardProofs: laid · BoardSigned: laid.
  DERIVED. THE GIVEN ROWS OF THIS SEAT. 9 by the template 'for every input the law returns true; each argument reads behind the call as it read before'; 0 by the template 'total and deterministic' (their statements: YtopaednfjjjnbaaDoorTotals.lean).
  GIVEN WITH THE SEED: the statements are not yours to turn. If you find one false, say at which input.
  Laid BY PROGRAM, IN A SANDBOX (cutbox-rows.mjs): the forced cells as the released guide's own fill.sh prints them over the translation a1d9d895eef0710a… (all of the seat's roots in one cut). By AI agents, Wed Nov 11 2026. No macro, syntax, notation, axiom, sorry.
-/
import Derived.Test.YtopaednfjjjnbaaDoorChecked
import GoSem.Claim
import GoSem.ClaimJoined
import GoSem.ClaimMapViews
import Derived.JoinedTies
import Derived.KernelRfl
namespace Go.Proofs.YtopaednfjjjnbaaDoor
/- THE CELL 'sum', in the pinned program and in every row, IS THE sha256 OF THE DUMP (.gsa) THAT YtopaednfjjjnbaaDoorProg.lean LOADS. Nothing in Lean hashes anything: it is a label: what it is worth is what the hold of that sum in a sandbox is worth. -/
noncomputable def Tryd.pinned : Pinned := { name := "ytopaednfjjjnbaadoor", sum := "a1d9d895eef0710a6c19e894afc849aec985a50da9f9aaad9f6056dcb8515abe", checked := Tryd.checked }
namespace Rows
def none {H : Type} : Left H := { results := [], args := [] }

/- WHAT THE LISTED PACKAGE-LEVEL VARIABLES READ AS WHEN THE CALL BEGINS. Each datum BY PROGRAM (the guide's laid-datum.mjs) off the statement by which the dump's own 'gosem.cut.vars' lays the variable. In a bare row this is a premise. The card (YtopaednfjjjnbaaDoorCards.lean) ties it to the program's text. -/
def laid_suffrage_digest_k {H : Type} : DataW H := .agg [.lit (.int .u32 1116352408), .lit (.int .u32 1899447441), .lit (.int .u32 3049323471), .lit (.int .u32 3921009573), .lit (.int .u32 961987163), .lit (.int .u32 1508970993), .lit (.int .u32 2453635748), .lit (.int .u32 2870763221), .lit (.int .u32 3624381080), .lit (.int .u32 310598401), .lit (.int .u32 607225278), .lit (.int .u32 1426881987), .lit (.int .u32 1925078388), .lit (.int .u32 2162078206), .lit (.int .u32 2614888103), .lit (.int .u32 3248222580), .lit (.int .u32 3835390401), .lit (.int .u32 4022224774), .lit (.int .u32 264347078), .lit (.int .u32 604807628), .lit (.int .u32 770255983), .lit (.int .u32 1249150122), .lit (.int .u32 1555081692), .lit (.int .u32 1996064986), .lit (.int .u32 2554220882), .lit (.int .u32 2821834349), .lit (.int .u32 2952996808), .lit (.int .u32 3210313671), .lit (.int .u32 3336571891), .lit (.int .u32 3584528711), .lit (.int .u32 113926993), .lit (.int .u32 338241895), .lit (.int .u32 666307205), .lit (.int .u32 773529912), .lit (.int .u32 1294757372), .lit (.int .u32 1396182291), .lit (.int .u32 1695183700), .lit (.int .u32 1986661051), .lit (.int .u32 2177026350), .lit (.int .u32 2456956037), .lit (.int .u32 2730485921), .lit (.int .u32 2820302411), .lit (.int .u32 3259730800), .lit (.int .u32 3345764771), .lit (.int .u32 3516065817), .lit (.int .u32 3600352804), .lit (.int .u32 4094571909), .lit (.int .u32 275423344), .lit (.int .u32 430227734), .lit (.int .u32 506948616), .lit (.int .u32 659060556), .lit (.int .u32 883997877), .lit (.int .u32 958139571), .lit (.int .u32 1322822218), .lit (.int .u32 1537002063), .lit (.int .u32 1747873779), .lit (.int .u32 1955562222), .lit (.int .u32 2024104815), .lit (.int .u32 2227730452), .lit (.int .u32 2361852424), .lit (.int .u32 2428436474), .lit (.int .u32 2756734187), .lit (.int .u32 3204031479), .lit (.int .u32 3329325298)]
def laid_suffrage_digest_first {H : Type} : DataW H := .agg [.lit (.int .u32 1779033703), .lit (.int .u32 3144134277), .lit (.int .u32 1013904242), .lit (.int .u32 2773480762), .lit (.int .u32 1359893119), .lit (.int .u32 2600822924), .lit (.int .u32 528734635), .lit (.int .u32 1541459225)]

/-- 'suffragelaw35.BoardNames': WHATEVER THE INPUT: true; the input reads as it did. -/
def boardNamesSpec : ChangeSpec := { name := "boardNames", fn := fun _ => fun
  | [] => { results := [.lit (.bool true)], args := [] }
  | _ => none }
def boardNamesRow : OpenClaim := { program := "ytopaednfjjjnbaadoor", sum := "a1d9d895eef0710a6c19e894afc849aec985a50da9f9aaad9f6056dcb8515abe", func := "suffrage/suffragelaw35.BoardNames", spec := "boardNames", unfollowed := true, recurses := true, named := ["suffrage/digest.first", "suffrage/digest.k"], apart := false, laid := [("suffrage/digest.k", laid_suffrage_digest_k), ("suffrage/digest.first", laid_suffrage_digest_first)] }
def BoardNamesSaid : Prop := boardNamesRow.holds Tryd.pinned (OpenSpec.ofChange boardNamesSpec)

/-- ITS FALSE NEIGHBOUR: 'it returns false'. Refute it at one input. -/
def boardNamesWrong : ChangeSpec := { name := "boardNames", fn := fun _ => fun
  | [] => { results := [.lit (.bool false)], args := [] }
  | _ => none }
def BoardNamesWrongFalsely : Prop := boardNamesRow.holds Tryd.pinned (OpenSpec.ofChange boardNamesWrong)

/-- 'suffragelaw35.BoardKeeps': WHATEVER THE INPUT: true; the input reads as it did. -/
def boardKeepsSpec : ChangeSpec := { name := "boardKeeps", fn := fun _ => fun
  | [d1, d2] => { results := [.lit (.bool true)], args := [d1, d2] }
  | _ => none }
def boardKeepsRow : OpenClaim := { program := "ytopaednfjjjnbaadoor", sum := "a1d9d895eef0710a6c19e894afc849aec985a50da9f9aaad9f6056dcb8515abe", func := "suffrage/suffragelaw35.BoardKeeps", spec := "boardKeeps", unfollowed := true, recurses := true, named := ["suffrage/digest.first", "suffrage/digest.k"], apart := false, laid := [("suffrage/digest.k", laid_suffrage_digest_k), ("suffrage/digest.first", laid_suffrage_digest_first)] }
def BoardKeepsSaid : Prop := boardKeepsRow.holds Tryd.pinned (OpenSpec.ofChange boardKeepsSpec)

/-- ITS FALSE NEIGHBOUR: 'it returns false'. Refute it at one input. -/
def boardKeepsWrong : ChangeSpec := { name := "boardKeeps", fn := fun _ => fun
  | [d1, d2] => { results := [.lit (.bool false)], args := [d1, d2] }
  | _ => none }
def BoardKeepsWrongFalsely : Prop := boardKeepsRow.holds Tryd.pinned (OpenSpec.ofChange boardKeepsWrong)

/-- 'suffragelaw35.BoardTells': WHATEVER THE INPUT: true; the input reads as it did. -/
def boardTellsSpec : ChangeSpec := { name := "boardTells", fn := fun _ => fun
  | [d1, d2, d3] => { results := [.lit (.bool true)], args := [d1, d2, d3] }
  | _ => none }
def boardTellsRow : OpenClaim := { program := "ytopaednfjjjnbaadoor", sum := "a1d9d895eef0710a6c19e894afc849aec985a50da9f9aaad9f6056dcb8515abe", func := "suffrage/suffragelaw35.BoardTells", spec := "boardTells", unfollowed := true, recurses := true, named := ["suffrage/digest.first", "suffrage/digest.k"], apart := false, laid := [("suffrage/digest.k", laid_suffrage_digest_k), ("suffrage/digest.first", laid_suffrage_digest_first)] }
def BoardTellsSaid : Prop := boardTellsRow.holds Tryd.pinned (OpenSpec.ofChange boardTellsSpec)

/-- ITS FALSE NEIGHBOUR: 'it returns false'. Refute it at one input. -/
def boardTellsWrong : ChangeSpec := { name := "boardTells", fn := fun _ => fun
  | [d1, d2, d3] => { results := [.lit (.bool false)], args := [d1, d2, d3] }
  | _ => none }
def BoardTellsWrongFalsely : Prop := boardTellsRow.holds Tryd.pinned (OpenSpec.ofChange boardTellsWrong)

/-- 'suffragelaw35.BoardIncludes': WHATEVER THE INPUT: true; the input reads as it did. -/
def boardIncludesSpec : ChangeSpec := { name := "boardIncludes", fn := fun _ => fun
  | [d1, d2] => { results := [.lit (.bool true)], args := [d1, d2] }
  | _ => none }
def boardIncludesRow : OpenClaim := { program := "ytopaednfjjjnbaadoor", sum := "a1d9d895eef0710a6c19e894afc849aec985a50da9f9aaad9f6056dcb8515abe", func := "suffrage/suffragelaw35.BoardIncludes", spec := "boardIncludes", unfollowed := true, recurses := true, named := ["suffrage/digest.first", "suffrage/digest.k"], apart := false, laid := [("suffrage/digest.k", laid_suffrage_digest_k), ("suffrage/digest.first", laid_suffrage_digest_first)] }
def BoardIncludesSaid : Prop := boardIncludesRow.holds Tryd.pinned (OpenSpec.ofChange boardIncludesSpec)

/-- ITS FALSE NEIGHBOUR: 'it returns false'. Refute it at one input. -/
def boardIncludesWrong : ChangeSpec := { name := "boardIncludes", fn := fun _ => fun
  | [d1, d2] => { results := [.lit (.bool false)], args := [d1, d2] }
  | _ => none }
def BoardIncludesWrongFalsely : Prop := boardIncludesRow.holds Tryd.pinned (OpenSpec.ofChange boardIncludesWrong)

/-- 'suffragelaw35.BoardForks': WHATEVER THE INPUT: true; the input reads as it did. -/
def boardForksSpec : ChangeSpec := { name := "boardForks", fn := fun _ => fun
  | [d1, d2, d3] => { results := [.lit (.bool true)], args := [d1, d2, d3] }
  | _ => none }
def boardForksRow : OpenClaim := { program := "ytopaednfjjjnbaadoor", sum := "a1d9d895eef0710a6c19e894afc849aec985a50da9f9aaad9f6056dcb8515abe", func := "suffrage/suffragelaw35.BoardForks", spec := "boardForks", unfollowed := true, recurses := true, named := ["suffrage/digest.first", "suffrage/digest.k"], apart := false, laid := [("suffrage/digest.k", laid_suffrage_digest_k), ("suffrage/digest.first", laid_suffrage_digest_first)] }
def BoardForksSaid : Prop := boardForksRow.holds Tryd.pinned (OpenSpec.ofChange boardForksSpec)

/-- ITS FALSE NEIGHBOUR: 'it returns false'. Refute it at one input. -/
def boardForksWrong : ChangeSpec := { name := "boardForks", fn := fun _ => fun
  | [d1, d2, d3] => { results := [.lit (.bool false)], args := [d1, d2, d3] }
  | _ => none }
def BoardForksWrongFalsely : Prop := boardForksRow.holds Tryd.pinned (OpenSpec.ofChange boardForksWrong)

/-- 'suffragelaw35.BoardExtends': WHATEVER THE INPUT: true; the input reads as it did. -/
def boardExtendsSpec : ChangeSpec := { name := "boardExtends", fn := fun _ => fun
  | [d1, d2] => { results := [.lit (.bool true)], args := [d1, d2] }
  | _ => none }
def boardExtendsRow : OpenClaim := { program := "ytopaednfjjjnbaadoor", sum := "a1d9d895eef0710a6c19e894afc849aec985a50da9f9aaad9f6056dcb8515abe", func := "suffrage/suffragelaw35.BoardExtends", spec := "boardExtends", unfollowed := true, recurses := true, named := ["suffrage/digest.first", "suffrage/digest.k"], apart := false, laid := [("suffrage/digest.k", laid_suffrage_digest_k), ("suffrage/digest.first", laid_suffrage_digest_first)] }
def BoardExtendsSaid : Prop := boardExtendsRow.holds Tryd.pinned (OpenSpec.ofChange boardExtendsSpec)

/-- ITS FALSE NEIGHBOUR: 'it returns false'. Refute it at one input. -/
def boardExtendsWrong : ChangeSpec := { name := "boardExtends", fn := fun _ => fun
  | [d1, d2] => { results := [.lit (.bool false)], args := [d1, d2] }
  | _ => none }
def BoardExtendsWrongFalsely : Prop := boardExtendsRow.holds Tryd.pinned (OpenSpec.ofChange boardExtendsWrong)

/-- 'suffragelaw35.BoardHeads': WHATEVER THE INPUT: true; the input reads as it did. -/
def boardHeadsSpec : ChangeSpec := { name := "boardHeads", fn := fun _ => fun
  | [d1, d2, d3, d4, d5] => { results := [.lit (.bool true)], args := [d1, d2, d3, d4, d5] }
  | _ => none }
def boardHeadsRow : OpenClaim := { program := "ytopaednfjjjnbaadoor", sum := "a1d9d895eef0710a6c19e894afc849aec985a50da9f9aaad9f6056dcb8515abe", func := "suffrage/suffragelaw35.BoardHeads", spec := "boardHeads", unfollowed := true, recurses := true, named := ["suffrage/digest.first", "suffrage/digest.k"], apart := false, laid := [("suffrage/digest.k", laid_suffrage_digest_k), ("suffrage/digest.first", laid_suffrage_digest_first)] }
def BoardHeadsSaid : Prop := boardHeadsRow.holds Tryd.pinned (OpenSpec.ofChange boardHeadsSpec)

/-- ITS FALSE NEIGHBOUR: 'it returns false'. Refute it at one input. -/
def boardHeadsWrong : ChangeSpec := { name := "boardHeads", fn := fun _ => fun
  | [d1, d2, d3, d4, d5] => { results := [.lit (.bool false)], args := [d1, d2, d3, d4, d5] }
  | _ => none }
def BoardHeadsWrongFalsely : Prop := boardHeadsRow.holds Tryd.pinned (OpenSpec.ofChange boardHeadsWrong)

/-- 'suffragelaw35.BoardProofs': WHATEVER THE INPUT: true; the input reads as it did. -/
def boardProofsSpec : ChangeSpec := { name := "boardProofs", fn := fun _ => fun
  | [d1, d2, d3, d4, d5, d6, d7] => { results := [.lit (.bool true)], args := [d1, d2, d3, d4, d5, d6, d7] }
  | _ => none }
def boardProofsRow : OpenClaim := { program := "ytopaednfjjjnbaadoor", sum := "a1d9d895eef0710a6c19e894afc849aec985a50da9f9aaad9f6056dcb8515abe", func := "suffrage/suffragelaw35.BoardProofs", spec := "boardProofs", unfollowed := true, recurses := true, named := ["suffrage/digest.first", "suffrage/digest.k"], apart := false, laid := [("suffrage/digest.k", laid_suffrage_digest_k), ("suffrage/digest.first", laid_suffrage_digest_first)] }
def BoardProofsSaid : Prop := boardProofsRow.holds Tryd.pinned (OpenSpec.ofChange boardProofsSpec)

/-- ITS FALSE NEIGHBOUR: 'it returns false'. Refute it at one input. -/
def boardProofsWrong : ChangeSpec := { name := "boardProofs", fn := fun _ => fun
  | [d1, d2, d3, d4, d5, d6, d7] => { results := [.lit (.bool false)], args := [d1, d2, d3, d4, d5, d6, d7] }
  | _ => none }
def BoardProofsWrongFalsely : Prop := boardProofsRow.holds Tryd.pinned (OpenSpec.ofChange boardProofsWrong)

/-- 'suffragelaw35.BoardSigned': WHATEVER THE INPUT: true; the input reads as it did. -/
def boardSignedSpec : ChangeSpec := { name := "boardSigned", fn := fun _ => fun
  | [d1, d2, d3, d4] => { results := [.lit (.bool true)], args := [d1, d2, d3, d4] }
  | _ => none }
def boardSignedRow : OpenClaim := { program := "ytopaednfjjjnbaadoor", sum := "a1d9d895eef0710a6c19e894afc849aec985a50da9f9aaad9f6056dcb8515abe", func := "suffrage/suffragelaw35.BoardSigned", spec := "boardSigned", unfollowed := true, recurses := true, named := ["suffrage/digest.first", "suffrage/digest.k"], apart := false, laid := [("suffrage/digest.k", laid_suffrage_digest_k), ("suffrage/digest.first", laid_suffrage_digest_first)] }
def BoardSignedSaid : Prop := boardSignedRow.holds Tryd.pinned (OpenSpec.ofChange boardSignedSpec)

/-- ITS FALSE NEIGHBOUR: 'it returns false'. Refute it at one input. -/
def boardSignedWrong : ChangeSpec := { name := "boardSigned", fn := fun _ => fun
  | [d1, d2, d3, d4] => { results := [.lit (.bool false)], args := [d1, d2, d3, d4] }
  | _ => none }
def BoardSignedWrongFalsely : Prop := boardSignedRow.holds Tryd.pinned (OpenSpec.ofChange boardSignedWrong)

/- THE SECOND FORM. 'bulk': how many values and letters a reading holds, each counted each time it is reached (what is shared counts as often as it is met; a slice's spare places count too). A statement '..UptoSaid' is the law's where the arguments, and the package variables that the reading takes, are together of bulk at most 1048576: NARROWER than '..Said'. Prove '..Said' where nothing that the law and all that it calls make is longer than what came in: it says more and counts as full. Else prove '..UptoSaid'. A law counts once. -/
mutual
def uptoBulk {H : Type} : DataW H → Nat
  | .lit (.string bytes) => bytes.length + 1
  | .lit _ => 1
  | .nil => 1
  | .ptr d => uptoBulk d + 1
  | .slice elems spare => uptoBulkAll elems + uptoBulkAll spare + 1
  | .agg parts => uptoBulkAll parts + 1
  | .iface _ d => uptoBulk d + 1
  | .map entries => uptoBulkEntries entries + 1
  | .held _ => 1
def uptoBulkAll {H : Type} : List (DataW H) → Nat
  | [] => 0
  | d :: r => uptoBulk d + uptoBulkAll r
def uptoBulkEntries {H : Type} : List (Lit × DataW H) → Nat
  | [] => 0
  | x :: r => uptoBulkEntry x + uptoBulkEntries r
def uptoBulkEntry {H : Type} : Lit × DataW H → Nat
  | (.string bytes, d) => bytes.length + uptoBulk d + 1
  | (_, d) => uptoBulk d + 1
 end
def uptoSmall : (H : Type) → List (DataW H) → Bool := fun _ ds => decide (uptoBulkAll ds ≤ 1048576)
def OpenSpec.upto (s : _root_.Go.ChangeSpec) : _root_.Go.OpenSpec := { _root_.Go.OpenSpec.ofChange s with cond := some uptoSmall }

/-- 'suffragelaw35.BoardNames', WHERE WHAT IT READS IS OF BULK AT MOST 1048576: true; the input reads as it did. -/
def boardNamesUptoRow : OpenClaim := { program := "ytopaednfjjjnbaadoor", sum := "a1d9d895eef0710a6c19e894afc849aec985a50da9f9aaad9f6056dcb8515abe", func := "suffrage/suffragelaw35.BoardNames", spec := "boardNames", unfollowed := true, recurses := true, named := ["suffrage/digest.first", "suffrage/digest.k"], apart := false, laid := [("suffrage/digest.k", laid_suffrage_digest_k), ("suffrage/digest.first", laid_suffrage_digest_first)], narrowed := true }
def BoardNamesUptoSaid : Prop := boardNamesUptoRow.holds Tryd.pinned (OpenSpec.upto boardNamesSpec)

/-- 'suffragelaw35.BoardKeeps', WHERE WHAT IT READS IS OF BULK AT MOST 1048576: true; the input reads as it did. -/
def boardKeepsUptoRow : OpenClaim := { program := "ytopaednfjjjnbaadoor", sum := "a1d9d895eef0710a6c19e894afc849aec985a50da9f9aaad9f6056dcb8515abe", func := "suffrage/suffragelaw35.BoardKeeps", spec := "boardKeeps", unfollowed := true, recurses := true, named := ["suffrage/digest.first", "suffrage/digest.k"], apart := false, laid := [("suffrage/digest.k", laid_suffrage_digest_k), ("suffrage/digest.first", laid_suffrage_digest_first)], narrowed := true }
def BoardKeepsUptoSaid : Prop := boardKeepsUptoRow.holds Tryd.pinned (OpenSpec.upto boardKeepsSpec)

/-- 'suffragelaw35.BoardTells', WHERE WHAT IT READS IS OF BULK AT MOST 1048576: true; the input reads as it did. -/
def boardTellsUptoRow : OpenClaim := { program := "ytopaednfjjjnbaadoor", sum := "a1d9d895eef0710a6c19e894afc849aec985a50da9f9aaad9f6056dcb8515abe", func := "suffrage/suffragelaw35.BoardTells", spec := "boardTells", unfollowed := true, recurses := true, named := ["suffrage/digest.first", "suffrage/digest.k"], apart := false, laid := [("suffrage/digest.k", laid_suffrage_digest_k), ("suffrage/digest.first", laid_suffrage_digest_first)], narrowed := true }
def BoardTellsUptoSaid : Prop := boardTellsUptoRow.holds Tryd.pinned (OpenSpec.upto boardTellsSpec)

/-- 'suffragelaw35.BoardIncludes', WHERE WHAT IT READS IS OF BULK AT MOST 1048576: true; the input reads as it did. -/
def boardIncludesUptoRow : OpenClaim := { program := "ytopaednfjjjnbaadoor", sum := "a1d9d895eef0710a6c19e894afc849aec985a50da9f9aaad9f6056dcb8515abe", func := "suffrage/suffragelaw35.BoardIncludes", spec := "boardIncludes", unfollowed := true, recurses := true, named := ["suffrage/digest.first", "suffrage/digest.k"], apart := false, laid := [("suffrage/digest.k", laid_suffrage_digest_k), ("suffrage/digest.first", laid_suffrage_digest_first)], narrowed := true }
def BoardIncludesUptoSaid : Prop := boardIncludesUptoRow.holds Tryd.pinned (OpenSpec.upto boardIncludesSpec)

/-- 'suffragelaw35.BoardForks', WHERE WHAT IT READS IS OF BULK AT MOST 1048576: true; the input reads as it did. -/
def boardForksUptoRow : OpenClaim := { program := "ytopaednfjjjnbaadoor", sum := "a1d9d895eef0710a6c19e894afc849aec985a50da9f9aaad9f6056dcb8515abe", func := "suffrage/suffragelaw35.BoardForks", spec := "boardForks", unfollowed := true, recurses := true, named := ["suffrage/digest.first", "suffrage/digest.k"], apart := false, laid := [("suffrage/digest.k", laid_suffrage_digest_k), ("suffrage/digest.first", laid_suffrage_digest_first)], narrowed := true }
def BoardForksUptoSaid : Prop := boardForksUptoRow.holds Tryd.pinned (OpenSpec.upto boardForksSpec)

/-- 'suffragelaw35.BoardExtends', WHERE WHAT IT READS IS OF BULK AT MOST 1048576: true; the input reads as it did. -/
def boardExtendsUptoRow : OpenClaim := { program := "ytopaednfjjjnbaadoor", sum := "a1d9d895eef0710a6c19e894afc849aec985a50da9f9aaad9f6056dcb8515abe", func := "suffrage/suffragelaw35.BoardExtends", spec := "boardExtends", unfollowed := true, recurses := true, named := ["suffrage/digest.first", "suffrage/digest.k"], apart := false, laid := [("suffrage/digest.k", laid_suffrage_digest_k), ("suffrage/digest.first", laid_suffrage_digest_first)], narrowed := true }
def BoardExtendsUptoSaid : Prop := boardExtendsUptoRow.holds Tryd.pinned (OpenSpec.upto boardExtendsSpec)

/-- 'suffragelaw35.BoardHeads', WHERE WHAT IT READS IS OF BULK AT MOST 1048576: true; the input reads as it did. -/
def boardHeadsUptoRow : OpenClaim := { program := "ytopaednfjjjnbaadoor", sum := "a1d9d895eef0710a6c19e894afc849aec985a50da9f9aaad9f6056dcb8515abe", func := "suffrage/suffragelaw35.BoardHeads", spec := "boardHeads", unfollowed := true, recurses := true, named := ["suffrage/digest.first", "suffrage/digest.k"], apart := false, laid := [("suffrage/digest.k", laid_suffrage_digest_k), ("suffrage/digest.first", laid_suffrage_digest_first)], narrowed := true }
def BoardHeadsUptoSaid : Prop := boardHeadsUptoRow.holds Tryd.pinned (OpenSpec.upto boardHeadsSpec)

/-- 'suffragelaw35.BoardProofs', WHERE WHAT IT READS IS OF BULK AT MOST 1048576: true; the input reads as it did. -/
def boardProofsUptoRow : OpenClaim := { program := "ytopaednfjjjnbaadoor", sum := "a1d9d895eef0710a6c19e894afc849aec985a50da9f9aaad9f6056dcb8515abe", func := "suffrage/suffragelaw35.BoardProofs", spec := "boardProofs", unfollowed := true, recurses := true, named := ["suffrage/digest.first", "suffrage/digest.k"], apart := false, laid := [("suffrage/digest.k", laid_suffrage_digest_k), ("suffrage/digest.first", laid_suffrage_digest_first)], narrowed := true }
def BoardProofsUptoSaid : Prop := boardProofsUptoRow.holds Tryd.pinned (OpenSpec.upto boardProofsSpec)

/-- 'suffragelaw35.BoardSigned', WHERE WHAT IT READS IS OF BULK AT MOST 1048576: true; the input reads as it did. -/
def boardSignedUptoRow : OpenClaim := { program := "ytopaednfjjjnbaadoor", sum := "a1d9d895eef0710a6c19e894afc849aec985a50da9f9aaad9f6056dcb8515abe", func := "suffrage/suffragelaw35.BoardSigned", spec := "boardSigned", unfollowed := true, recurses := true, named := ["suffrage/digest.first", "suffrage/digest.k"], apart := false, laid := [("suffrage/digest.k", laid_suffrage_digest_k), ("suffrage/digest.first", laid_suffrage_digest_first)], narrowed := true }
def BoardSignedUptoSaid : Prop := boardSignedUptoRow.holds Tryd.pinned (OpenSpec.upto boardSignedSpec)

end Rows
end Go.Proofs.YtopaednfjjjnbaaDoor
