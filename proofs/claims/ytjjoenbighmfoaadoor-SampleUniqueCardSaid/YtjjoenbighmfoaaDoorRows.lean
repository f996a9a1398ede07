/-
  NARROWER THAN 'FOR EVERY INPUT', by the rows' own cells (each row's printed sentence says how): SampleUnique: laid · SampleExamples: laid · SampleMatches: laid · SamplePositionsMatch: laid · SampleNumbering: laid · SamplePrefix: laid · SampleSplit: laid.
  DERIVED. THE GIVEN ROWS OF THIS SEAT. 7 by the template 'for every input the law returns true; each argument reads behind the call as it read before'; 0 by the template 'total and deterministic' (their statements: YtjjoenbighmfoaaDoorTotals.lean).
  GIVEN WITH THE SEED: the statements are not yours to turn. If you find one false, say at which input.
  Laid BY PROGRAM, IN A SANDBOX (cutbox-rows.mjs): the forced cells as the released guide's own fill.sh prints them over the translation 0f1c06cff651c6a5… (all of the seat's roots in one cut). By AI agents, Wed Nov 11 2026. No macro, syntax, notation, axiom, sorry.
-/
import Derived.Test.YtjjoenbighmfoaaDoorChecked
import GoSem.Claim
import GoSem.ClaimJoined
import GoSem.ClaimMapViews
import Derived.JoinedTies
import Derived.KernelRfl
namespace Go.Proofs.YtjjoenbighmfoaaDoor
/- THE CELL 'sum', in the pinned program and in every row, IS THE sha256 OF THE DUMP (.gsa) THAT YtjjoenbighmfoaaDoorProg.lean LOADS. Nothing in Lean hashes anything: it is a label: what it is worth is what the hold of that sum in a sandbox is worth. -/
noncomputable def Tryd.pinned : Pinned := { name := "ytjjoenbighmfoaadoor", sum := "0f1c06cff651c6a5067aac8ea02cfbdf06ae1bc351e68cb86f105ef6b5361797", checked := Tryd.checked }
namespace Rows
def none {H : Type} : Left H := { results := [], args := [] }

/- WHAT THE LISTED PACKAGE-LEVEL VARIABLES READ AS WHEN THE CALL BEGINS. Each datum BY PROGRAM (the guide's laid-datum.mjs) off the statement by which the dump's own 'gosem.cut.vars' lays the variable. In a bare row this is a premise. The card (YtjjoenbighmfoaaDoorCards.lean) ties it to the program's text. -/
def laid_suffrage_digest_k {H : Type} : DataW H := .agg [.lit (.int .u32 1116352408), .lit (.int .u32 1899447441), .lit (.int .u32 3049323471), .lit (.int .u32 3921009573), .lit (.int .u32 961987163), .lit (.int .u32 1508970993), .lit (.int .u32 2453635748), .lit (.int .u32 2870763221), .lit (.int .u32 3624381080), .lit (.int .u32 310598401), .lit (.int .u32 607225278), .lit (.int .u32 1426881987), .lit (.int .u32 1925078388), .lit (.int .u32 2162078206), .lit (.int .u32 2614888103), .lit (.int .u32 3248222580), .lit (.int .u32 3835390401), .lit (.int .u32 4022224774), .lit (.int .u32 264347078), .lit (.int .u32 604807628), .lit (.int .u32 770255983), .lit (.int .u32 1249150122), .lit (.int .u32 1555081692), .lit (.int .u32 1996064986), .lit (.int .u32 2554220882), .lit (.int .u32 2821834349), .lit (.int .u32 2952996808), .lit (.int .u32 3210313671), .lit (.int .u32 3336571891), .lit (.int .u32 3584528711), .lit (.int .u32 113926993), .lit (.int .u32 338241895), .lit (.int .u32 666307205), .lit (.int .u32 773529912), .lit (.int .u32 1294757372), .lit (.int .u32 1396182291), .lit (.int .u32 1695183700), .lit (.int .u32 1986661051), .lit (.int .u32 2177026350), .lit (.int .u32 2456956037), .lit (.int .u32 2730485921), .lit (.int .u32 2820302411), .lit (.int .u32 3259730800), .lit (.int .u32 3345764771), .lit (.int .u32 3516065817), .lit (.int .u32 3600352804), .lit (.int .u32 4094571909), .lit (.int .u32 275423344), .lit (.int .u32 430227734), .lit (.int .u32 506948616), .lit (.int .u32 659060556), .lit (.int .u32 883997877), .lit (.int .u32 958139571), .lit (.int .u32 1322822218), .lit (.int .u32 1537002063), .lit (.int .u32 1747873779), .lit (.int .u32 1955562222), .lit (.int .u32 2024104815), .lit (.int .u32 2227730452), .lit (.int .u32 2361852424), .lit (.int .u32 2428436474), .lit (.int .u32 2756734187), .lit (.int .u32 3204031479), .lit (.int .u32 3329325298)]
def laid_suffrage_digest_first {H : Type} : DataW H := .agg [.lit (.int .u32 1779033703), .lit (.int .u32 3144134277), .lit (.int .u32 1013904242), .lit (.int .u32 2773480762), .lit (.int .u32 1359893119), .lit (.int .u32 2600822924), .lit (.int .u32 528734635), .lit (.int .u32 1541459225)]

/-- 'suffragelaw38.SampleUnique': WHATEVER THE INPUT: true; the input reads as it did. -/
def sampleUniqueSpec : ChangeSpec := { name := "sampleUnique", fn := fun _ => fun
  | [d] => { results := [.lit (.bool true)], args := [d] }
  | _ => none }
def sampleUniqueRow : OpenClaim := { program := "ytjjoenbighmfoaadoor", sum := "0f1c06cff651c6a5067aac8ea02cfbdf06ae1bc351e68cb86f105ef6b5361797", func := "suffrage/suffragelaw38.SampleUnique", spec := "sampleUnique", unfollowed := true, recurses := true, named := ["suffrage/digest.first", "suffrage/digest.k"], plainKeys := false, apart := false, laid := [("suffrage/digest.k", laid_suffrage_digest_k), ("suffrage/digest.first", laid_suffrage_digest_first)] }
def SampleUniqueSaid : Prop := sampleUniqueRow.holds Tryd.pinned (OpenSpec.ofChange sampleUniqueSpec)

/-- ITS FALSE NEIGHBOUR: 'it returns false'. Refute it at one input. -/
def sampleUniqueWrong : ChangeSpec := { name := "sampleUnique", fn := fun _ => fun
  | [d] => { results := [.lit (.bool false)], args := [d] }
  | _ => none }
def SampleUniqueWrongFalsely : Prop := sampleUniqueRow.holds Tryd.pinned (OpenSpec.ofChange sampleUniqueWrong)

/-- 'suffragelaw38.SampleExamples': WHATEVER THE INPUT: true; the input reads as it did. -/
def sampleExamplesSpec : ChangeSpec := { name := "sampleExamples", fn := fun _ => fun
  | [] => { results := [.lit (.bool true)], args := [] }
  | _ => none }
def sampleExamplesRow : OpenClaim := { program := "ytjjoenbighmfoaadoor", sum := "0f1c06cff651c6a5067aac8ea02cfbdf06ae1bc351e68cb86f105ef6b5361797", func := "suffrage/suffragelaw38.SampleExamples", spec := "sampleExamples", unfollowed := true, recurses := true, named := ["suffrage/digest.first", "suffrage/digest.k"], plainKeys := false, apart := false, laid := [("suffrage/digest.k", laid_suffrage_digest_k), ("suffrage/digest.first", laid_suffrage_digest_first)] }
def SampleExamplesSaid : Prop := sampleExamplesRow.holds Tryd.pinned (OpenSpec.ofChange sampleExamplesSpec)

/-- ITS FALSE NEIGHBOUR: 'it returns false'. Refute it at one input. -/
def sampleExamplesWrong : ChangeSpec := { name := "sampleExamples", fn := fun _ => fun
  | [] => { results := [.lit (.bool false)], args := [] }
  | _ => none }
def SampleExamplesWrongFalsely : Prop := sampleExamplesRow.holds Tryd.pinned (OpenSpec.ofChange sampleExamplesWrong)

/-- 'suffragelaw38.SampleMatches': WHATEVER THE INPUT: true; the input reads as it did. -/
def sampleMatchesSpec : ChangeSpec := { name := "sampleMatches", fn := fun _ => fun
  | [d1, d2, d3, d4, d5] => { results := [.lit (.bool true)], args := [d1, d2, d3, d4, d5] }
  | _ => none }
def sampleMatchesRow : OpenClaim := { program := "ytjjoenbighmfoaadoor", sum := "0f1c06cff651c6a5067aac8ea02cfbdf06ae1bc351e68cb86f105ef6b5361797", func := "suffrage/suffragelaw38.SampleMatches", spec := "sampleMatches", unfollowed := true, recurses := true, named := ["suffrage/digest.first", "suffrage/digest.k"], plainKeys := false, apart := false, laid := [("suffrage/digest.k", laid_suffrage_digest_k), ("suffrage/digest.first", laid_suffrage_digest_first)] }
def SampleMatchesSaid : Prop := sampleMatchesRow.holds Tryd.pinned (OpenSpec.ofChange sampleMatchesSpec)

/-- ITS FALSE NEIGHBOUR: 'it returns false'. Refute it at one input. -/
def sampleMatchesWrong : ChangeSpec := { name := "sampleMatches", fn := fun _ => fun
  | [d1, d2, d3, d4, d5] => { results := [.lit (.bool false)], args := [d1, d2, d3, d4, d5] }
  | _ => none }
def SampleMatchesWrongFalsely : Prop := sampleMatchesRow.holds Tryd.pinned (OpenSpec.ofChange sampleMatchesWrong)

/-- 'suffragelaw38.SamplePositionsMatch': WHATEVER THE INPUT: true; the input reads as it did. -/
def samplePositionsMatchSpec : ChangeSpec := { name := "samplePositionsMatch", fn := fun _ => fun
  | [d1, d2, d3, d4] => { results := [.lit (.bool true)], args := [d1, d2, d3, d4] }
  | _ => none }
def samplePositionsMatchRow : OpenClaim := { program := "ytjjoenbighmfoaadoor", sum := "0f1c06cff651c6a5067aac8ea02cfbdf06ae1bc351e68cb86f105ef6b5361797", func := "suffrage/suffragelaw38.SamplePositionsMatch", spec := "samplePositionsMatch", unfollowed := true, recurses := true, named := ["suffrage/digest.first", "suffrage/digest.k"], plainKeys := false, apart := false, laid := [("suffrage/digest.k", laid_suffrage_digest_k), ("suffrage/digest.first", laid_suffrage_digest_first)] }
def SamplePositionsMatchSaid : Prop := samplePositionsMatchRow.holds Tryd.pinned (OpenSpec.ofChange samplePositionsMatchSpec)

/-- ITS FALSE NEIGHBOUR: 'it returns false'. Refute it at one input. -/
def samplePositionsMatchWrong : ChangeSpec := { name := "samplePositionsMatch", fn := fun _ => fun
  | [d1, d2, d3, d4] => { results := [.lit (.bool false)], args := [d1, d2, d3, d4] }
  | _ => none }
def SamplePositionsMatchWrongFalsely : Prop := samplePositionsMatchRow.holds Tryd.pinned (OpenSpec.ofChange samplePositionsMatchWrong)

/-- 'suffragelaw38.SampleNumbering': WHATEVER THE INPUT: true; the input reads as it did. -/
def sampleNumberingSpec : ChangeSpec := { name := "sampleNumbering", fn := fun _ => fun
  | [d] => { results := [.lit (.bool true)], args := [d] }
  | _ => none }
def sampleNumberingRow : OpenClaim := { program := "ytjjoenbighmfoaadoor", sum := "0f1c06cff651c6a5067aac8ea02cfbdf06ae1bc351e68cb86f105ef6b5361797", func := "suffrage/suffragelaw38.SampleNumbering", spec := "sampleNumbering", unfollowed := true, recurses := true, named := ["suffrage/digest.first", "suffrage/digest.k"], plainKeys := false, apart := false, laid := [("suffrage/digest.k", laid_suffrage_digest_k), ("suffrage/digest.first", laid_suffrage_digest_first)] }
def SampleNumberingSaid : Prop := sampleNumberingRow.holds Tryd.pinned (OpenSpec.ofChange sampleNumberingSpec)

/-- ITS FALSE NEIGHBOUR: 'it returns false'. Refute it at one input. -/
def sampleNumberingWrong : ChangeSpec := { name := "sampleNumbering", fn := fun _ => fun
  | [d] => { results := [.lit (.bool false)], args := [d] }
  | _ => none }
def SampleNumberingWrongFalsely : Prop := sampleNumberingRow.holds Tryd.pinned (OpenSpec.ofChange sampleNumberingWrong)

/-- 'suffragelaw38.SamplePrefix': WHATEVER THE INPUT: true; the input reads as it did. -/
def samplePrefixSpec : ChangeSpec := { name := "samplePrefix", fn := fun _ => fun
  | [d1, d2, d3, d4, d5] => { results := [.lit (.bool true)], args := [d1, d2, d3, d4, d5] }
  | _ => none }
def samplePrefixRow : OpenClaim := { program := "ytjjoenbighmfoaadoor", sum := "0f1c06cff651c6a5067aac8ea02cfbdf06ae1bc351e68cb86f105ef6b5361797", func := "suffrage/suffragelaw38.SamplePrefix", spec := "samplePrefix", unfollowed := true, recurses := true, named := ["suffrage/digest.first", "suffrage/digest.k"], plainKeys := false, apart := false, laid := [("suffrage/digest.k", laid_suffrage_digest_k), ("suffrage/digest.first", laid_suffrage_digest_first)] }
def SamplePrefixSaid : Prop := samplePrefixRow.holds Tryd.pinned (OpenSpec.ofChange samplePrefixSpec)

/-- ITS FALSE NEIGHBOUR: 'it returns false'. Refute it at one input. -/
def samplePrefixWrong : ChangeSpec := { name := "samplePrefix", fn := fun _ => fun
  | [d1, d2, d3, d4, d5] => { results := [.lit (.bool false)], args := [d1, d2, d3, d4, d5] }
  | _ => none }
def SamplePrefixWrongFalsely : Prop := samplePrefixRow.holds Tryd.pinned (OpenSpec.ofChange samplePrefixWrong)

/-- 'suffragelaw38.SampleSplit': WHATEVER THE INPUT: true; the input reads as it did. -/
def sampleSplitSpec : ChangeSpec := { name := "sampleSplit", fn := fun _ => fun
  | [d1, d2, d3, d4, d5, d6] => { results := [.lit (.bool true)], args := [d1, d2, d3, d4, d5, d6] }
  | _ => none }
def sampleSplitRow : OpenClaim := { program := "ytjjoenbighmfoaadoor", sum := "0f1c06cff651c6a5067aac8ea02cfbdf06ae1bc351e68cb86f105ef6b5361797", func := "suffrage/suffragelaw38.SampleSplit", spec := "sampleSplit", unfollowed := true, recurses := true, named := ["suffrage/digest.first", "suffrage/digest.k"], plainKeys := false, apart := false, laid := [("suffrage/digest.k", laid_suffrage_digest_k), ("suffrage/digest.first", laid_suffrage_digest_first)] }
def SampleSplitSaid : Prop := sampleSplitRow.holds Tryd.pinned (OpenSpec.ofChange sampleSplitSpec)

/-- ITS FALSE NEIGHBOUR: 'it returns false'. Refute it at one input. -/
def sampleSplitWrong : ChangeSpec := { name := "sampleSplit", fn := fun _ => fun
  | [d1, d2, d3, d4, d5, d6] => { results := [.lit (.bool false)], args := [d1, d2, d3, d4, d5, d6] }
  | _ => none }
def SampleSplitWrongFalsely : Prop := sampleSplitRow.holds Tryd.pinned (OpenSpec.ofChange sampleSplitWrong)

/- THE SECOND FORM. 'bulk': how many values and letters a reading holds, each counted each time it is reached (what is shared counts as often as it is met; a slice's spare places count too). A statement '..UptoSaid' is the law's where the arguments, and the package variables that the reading takes, are together of bulk at most 1048576: NARROWER than '..Said'. Prove '..Said' where nothing that the law and all that it calls make is longer than what came in: it says more and counts as full. Else prove '..UptoSaid'. A law counts once. -/
mutual
def uptoBulk {H : Type} : DataW H → Nat
  | .lit (.string bytes) => bytes.length + 1
  | .lit _ => 1
  | .nil => 1
  | .ptr d => uptoBulk d + 1
  | .slice elems spare => uptoBulkAll elems + uptoBulkAll spare + 1
  | .agg parts => uptoBulkAll parts + 1
  | .iface _ d => uptoBulk d + 1
  | .map entries => uptoBulkEntries entries + 1
  | .held _ => 1
def uptoBulkAll {H : Type} : List (DataW H) → Nat
  | [] => 0
  | d :: r => uptoBulk d + uptoBulkAll r
def uptoBulkEntries {H : Type} : List (Lit × DataW H) → Nat
  | [] => 0
  | x :: r => uptoBulkEntry x + uptoBulkEntries r
def uptoBulkEntry {H : Type} : Lit × DataW H → Nat
  | (.string bytes, d) => bytes.length + uptoBulk d + 1
  | (_, d) => uptoBulk d + 1
 end
def uptoSmall : (H : Type) → List (DataW H) → Bool := fun _ ds => decide (uptoBulkAll ds ≤ 1048576)
def OpenSpec.upto (s : _root_.Go.ChangeSpec) : _root_.Go.OpenSpec := { _root_.Go.OpenSpec.ofChange s with cond := some uptoSmall }

/-- 'suffragelaw38.SampleUnique', WHERE WHAT IT READS IS OF BULK AT MOST 1048576: true; the input reads as it did. -/
def sampleUniqueUptoRow : OpenClaim := { program := "ytjjoenbighmfoaadoor", sum := "0f1c06cff651c6a5067aac8ea02cfbdf06ae1bc351e68cb86f105ef6b5361797", func := "suffrage/suffragelaw38.SampleUnique", spec := "sampleUnique", unfollowed := true, recurses := true, named := ["suffrage/digest.first", "suffrage/digest.k"], plainKeys := false, apart := false, laid := [("suffrage/digest.k", laid_suffrage_digest_k), ("suffrage/digest.first", laid_suffrage_digest_first)], narrowed := true }
def SampleUniqueUptoSaid : Prop := sampleUniqueUptoRow.holds Tryd.pinned (OpenSpec.upto sampleUniqueSpec)

/-- 'suffragelaw38.SampleExamples', WHERE WHAT IT READS IS OF BULK AT MOST 1048576: true; the input reads as it did. -/
def sampleExamplesUptoRow : OpenClaim := { program := "ytjjoenbighmfoaadoor", sum := "0f1c06cff651c6a5067aac8ea02cfbdf06ae1bc351e68cb86f105ef6b5361797", func := "suffrage/suffragelaw38.SampleExamples", spec := "sampleExamples", unfollowed := true, recurses := true, named := ["suffrage/digest.first", "suffrage/digest.k"], plainKeys := false, apart := false, laid := [("suffrage/digest.k", laid_suffrage_digest_k), ("suffrage/digest.first", laid_suffrage_digest_first)], narrowed := true }
def SampleExamplesUptoSaid : Prop := sampleExamplesUptoRow.holds Tryd.pinned (OpenSpec.upto sampleExamplesSpec)

/-- 'suffragelaw38.SampleMatches', WHERE WHAT IT READS IS OF BULK AT MOST 1048576: true; the input reads as it did. -/
def sampleMatchesUptoRow : OpenClaim := { program := "ytjjoenbighmfoaadoor", sum := "0f1c06cff651c6a5067aac8ea02cfbdf06ae1bc351e68cb86f105ef6b5361797", func := "suffrage/suffragelaw38.SampleMatches", spec := "sampleMatches", unfollowed := true, recurses := true, named := ["suffrage/digest.first", "suffrage/digest.k"], plainKeys := false, apart := false, laid := [("suffrage/digest.k", laid_suffrage_digest_k), ("suffrage/digest.first", laid_suffrage_digest_first)], narrowed := true }
def SampleMatchesUptoSaid : Prop := sampleMatchesUptoRow.holds Tryd.pinned (OpenSpec.upto sampleMatchesSpec)

/-- 'suffragelaw38.SamplePositionsMatch', WHERE WHAT IT READS IS OF BULK AT MOST 1048576: true; the input reads as it did. -/
def samplePositionsMatchUptoRow : OpenClaim := { program := "ytjjoenbighmfoaadoor", sum := "0f1c06cff651c6a5067aac8ea02cfbdf06ae1bc351e68cb86f105ef6b5361797", func := "suffrage/suffragelaw38.SamplePositionsMatch", spec := "samplePositionsMatch", unfollowed := true, recurses := true, named := ["suffrage/digest.first", "suffrage/digest.k"], plainKeys := false, apart := false, laid := [("suffrage/digest.k", laid_suffrage_digest_k), ("suffrage/digest.first", laid_suffrage_digest_first)], narrowed := true }
def SamplePositionsMatchUptoSaid : Prop := samplePositionsMatchUptoRow.holds Tryd.pinned (OpenSpec.upto samplePositionsMatchSpec)

/-- 'suffragelaw38.SampleNumbering', WHERE WHAT IT READS IS OF BULK AT MOST 1048576: true; the input reads as it did. -/
def sampleNumberingUptoRow : OpenClaim := { program := "ytjjoenbighmfoaadoor", sum := "0f1c06cff651c6a5067aac8ea02cfbdf06ae1bc351e68cb86f105ef6b5361797", func := "suffrage/suffragelaw38.SampleNumbering", spec := "sampleNumbering", unfollowed := true, recurses := true, named := ["suffrage/digest.first", "suffrage/digest.k"], plainKeys := false, apart := false, laid := [("suffrage/digest.k", laid_suffrage_digest_k), ("suffrage/digest.first", laid_suffrage_digest_first)], narrowed := true }
def SampleNumberingUptoSaid : Prop := sampleNumberingUptoRow.holds Tryd.pinned (OpenSpec.upto sampleNumberingSpec)

/-- 'suffragelaw38.SamplePrefix', WHERE WHAT IT READS IS OF BULK AT MOST 1048576: true; the input reads as it did. -/
def samplePrefixUptoRow : OpenClaim := { program := "ytjjoenbighmfoaadoor", sum := "0f1c06cff651c6a5067aac8ea02cfbdf06ae1bc351e68cb86f105ef6b5361797", func := "suffrage/suffragelaw38.SamplePrefix", spec := "samplePrefix", unfollowed := true, recurses := true, named := ["suffrage/digest.first", "suffrage/digest.k"], plainKeys := false, apart := false, laid := [("suffrage/digest.k", laid_suffrage_digest_k), ("suffrage/digest.first", laid_suffrage_digest_first)], narrowed := true }
def SamplePrefixUptoSaid : Prop := samplePrefixUptoRow.holds Tryd.pinned (OpenSpec.upto samplePrefixSpec)

/-- 'suffragelaw38.SampleSplit', WHERE WHAT IT READS IS OF BULK AT MOST 1048576: true; the input reads as it did. -/
def sampleSplitUptoRow : OpenClaim := { program := "ytjjoenbighmfoaadoor", sum := "0f1c06cff651c6a5067aac8ea02cfbdf06ae1bc351e68cb86f105ef6b5361797", func := "suffrage/suffragelaw38.SampleSplit", spec := "sampleSplit", unfollowed := true, recurses := true, named := ["suffrage/digest.first", "suffrage/digest.k"], plainKeys := false, apart := false, laid := [("suffrage/digest.k", laid_suffrage_digest_k), ("suffrage/digest.first", laid_suffrage_digest_first)], narrowed := true }
def SampleSplitUptoSaid : Prop := sampleSplitUptoRow.holds Tryd.pinned (OpenSpec.upto sampleSplitSpec)

end Rows
end Go.Proofs.YtjjoenbighmfoaaDoor
