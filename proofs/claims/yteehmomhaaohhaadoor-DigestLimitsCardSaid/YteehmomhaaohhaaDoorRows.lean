/-
  NARROWER THAN 'FOR EVERY INPUT', by the rows' own cells (each row's printed sentence says how): DigestCompress: laid · DigestSum: laid · DigestPads: laid · DigestNames: laid · DigestLimits: laid · DigestFolds: laid · DigestResumes: laid · DigestNodes: laid · DigestPrefixes: laid.
  DERIVED. THE GIVEN ROWS OF THIS SEAT. 9 by the template 'for every input the law returns true; each argument reads behind the call as it read before'; 0 by the template 'total and deterministic' (their statements: YteehmomhaaohhaaDoorTotals.lean).
  GIVEN WITH THE SEED: the statements are not yours to turn. If you find one false, say at which input.
  Laid BY PROGRAM, IN A SANDBOX (cutbox-rows.mjs): the forced cells as the released guide's own fill.sh prints them over the translation 0e79e402c442fcde… (all of the seat's roots in one cut). By AI agents, Wed Nov 11 2026. No macro, syntax, notation, axiom, sorry.
-/
import Derived.Test.YteehmomhaaohhaaDoorChecked
import GoSem.Claim
import GoSem.ClaimJoined
import GoSem.ClaimMapViews
import Derived.JoinedTies
import Derived.KernelRfl
namespace Go.Proofs.YteehmomhaaohhaaDoor
/- THE CELL 'sum', in the pinned program and in every row, IS THE sha256 OF THE DUMP (.gsa) THAT YteehmomhaaohhaaDoorProg.lean LOADS. Nothing in Lean hashes anything: it is a label: what it is worth is what the hold of that sum in a sandbox is worth. -/
noncomputable def Tryd.pinned : Pinned := { name := "yteehmomhaaohhaadoor", sum := "0e79e402c442fcdeaa3474617720c5999e71f031ab43c38945585472aabcaa72", checked := Tryd.checked }
namespace Rows
def none {H : Type} : Left H := { results := [], args := [] }

/- WHAT THE LISTED PACKAGE-LEVEL VARIABLES READ AS WHEN THE CALL BEGINS. Each datum BY PROGRAM (the guide's laid-datum.mjs) off the statement by which the dump's own 'gosem.cut.vars' lays the variable. In a bare row this is a premise. The card (YteehmomhaaohhaaDoorCards.lean) ties it to the program's text. -/
def laid_suffrage_digest_k {H : Type} : DataW H := .agg [.lit (.int .u32 1116352408), .lit (.int .u32 1899447441), .lit (.int .u32 3049323471), .lit (.int .u32 3921009573), .lit (.int .u32 961987163), .lit (.int .u32 1508970993), .lit (.int .u32 2453635748), .lit (.int .u32 2870763221), .lit (.int .u32 3624381080), .lit (.int .u32 310598401), .lit (.int .u32 607225278), .lit (.int .u32 1426881987), .lit (.int .u32 1925078388), .lit (.int .u32 2162078206), .lit (.int .u32 2614888103), .lit (.int .u32 3248222580), .lit (.int .u32 3835390401), .lit (.int .u32 4022224774), .lit (.int .u32 264347078), .lit (.int .u32 604807628), .lit (.int .u32 770255983), .lit (.int .u32 1249150122), .lit (.int .u32 1555081692), .lit (.int .u32 1996064986), .lit (.int .u32 2554220882), .lit (.int .u32 2821834349), .lit (.int .u32 2952996808), .lit (.int .u32 3210313671), .lit (.int .u32 3336571891), .lit (.int .u32 3584528711), .lit (.int .u32 113926993), .lit (.int .u32 338241895), .lit (.int .u32 666307205), .lit (.int .u32 773529912), .lit (.int .u32 1294757372), .lit (.int .u32 1396182291), .lit (.int .u32 1695183700), .lit (.int .u32 1986661051), .lit (.int .u32 2177026350), .lit (.int .u32 2456956037), .lit (.int .u32 2730485921), .lit (.int .u32 2820302411), .lit (.int .u32 3259730800), .lit (.int .u32 3345764771), .lit (.int .u32 3516065817), .lit (.int .u32 3600352804), .lit (.int .u32 4094571909), .lit (.int .u32 275423344), .lit (.int .u32 430227734), .lit (.int .u32 506948616), .lit (.int .u32 659060556), .lit (.int .u32 883997877), .lit (.int .u32 958139571), .lit (.int .u32 1322822218), .lit (.int .u32 1537002063), .lit (.int .u32 1747873779), .lit (.int .u32 1955562222), .lit (.int .u32 2024104815), .lit (.int .u32 2227730452), .lit (.int .u32 2361852424), .lit (.int .u32 2428436474), .lit (.int .u32 2756734187), .lit (.int .u32 3204031479), .lit (.int .u32 3329325298)]
def laid_suffrage_digest_first {H : Type} : DataW H := .agg [.lit (.int .u32 1779033703), .lit (.int .u32 3144134277), .lit (.int .u32 1013904242), .lit (.int .u32 2773480762), .lit (.int .u32 1359893119), .lit (.int .u32 2600822924), .lit (.int .u32 528734635), .lit (.int .u32 1541459225)]

/-- 'suffragelaw05.DigestCompress': WHATEVER THE INPUT: true; the input reads as it did. -/
def digestCompressSpec : ChangeSpec := { name := "digestCompress", fn := fun _ => fun
  | [d1, d2, d3] => { results := [.lit (.bool true)], args := [d1, d2, d3] }
  | _ => none }
def digestCompressRow : OpenClaim := { program := "yteehmomhaaohhaadoor", sum := "0e79e402c442fcdeaa3474617720c5999e71f031ab43c38945585472aabcaa72", func := "suffrage/suffragelaw05.DigestCompress", spec := "digestCompress", named := ["suffrage/digest.k"], apart := false, laid := [("suffrage/digest.k", laid_suffrage_digest_k)] }
def DigestCompressSaid : Prop := digestCompressRow.holds Tryd.pinned (OpenSpec.ofChange digestCompressSpec)

/-- ITS FALSE NEIGHBOUR: 'it returns false'. Refute it at one input. -/
def digestCompressWrong : ChangeSpec := { name := "digestCompress", fn := fun _ => fun
  | [d1, d2, d3] => { results := [.lit (.bool false)], args := [d1, d2, d3] }
  | _ => none }
def DigestCompressWrongFalsely : Prop := digestCompressRow.holds Tryd.pinned (OpenSpec.ofChange digestCompressWrong)

/-- 'suffragelaw05.DigestSum': WHATEVER THE INPUT: true; the input reads as it did. -/
def digestSumSpec : ChangeSpec := { name := "digestSum", fn := fun _ => fun
  | [d] => { results := [.lit (.bool true)], args := [d] }
  | _ => none }
def digestSumRow : OpenClaim := { program := "yteehmomhaaohhaadoor", sum := "0e79e402c442fcdeaa3474617720c5999e71f031ab43c38945585472aabcaa72", func := "suffrage/suffragelaw05.DigestSum", spec := "digestSum", unfollowed := true, recurses := true, named := ["suffrage/digest.first", "suffrage/digest.k"], apart := false, laid := [("suffrage/digest.k", laid_suffrage_digest_k), ("suffrage/digest.first", laid_suffrage_digest_first)] }
def DigestSumSaid : Prop := digestSumRow.holds Tryd.pinned (OpenSpec.ofChange digestSumSpec)

/-- ITS FALSE NEIGHBOUR: 'it returns false'. Refute it at one input. -/
def digestSumWrong : ChangeSpec := { name := "digestSum", fn := fun _ => fun
  | [d] => { results := [.lit (.bool false)], args := [d] }
  | _ => none }
def DigestSumWrongFalsely : Prop := digestSumRow.holds Tryd.pinned (OpenSpec.ofChange digestSumWrong)

/-- 'suffragelaw05.DigestPads': WHATEVER THE INPUT: true; the input reads as it did. -/
def digestPadsSpec : ChangeSpec := { name := "digestPads", fn := fun _ => fun
  | [d] => { results := [.lit (.bool true)], args := [d] }
  | _ => none }
def digestPadsRow : OpenClaim := { program := "yteehmomhaaohhaadoor", sum := "0e79e402c442fcdeaa3474617720c5999e71f031ab43c38945585472aabcaa72", func := "suffrage/suffragelaw05.DigestPads", spec := "digestPads", unfollowed := true, recurses := true, named := ["suffrage/digest.first", "suffrage/digest.k"], apart := false, laid := [("suffrage/digest.k", laid_suffrage_digest_k), ("suffrage/digest.first", laid_suffrage_digest_first)] }
def DigestPadsSaid : Prop := digestPadsRow.holds Tryd.pinned (OpenSpec.ofChange digestPadsSpec)

/-- ITS FALSE NEIGHBOUR: 'it returns false'. Refute it at one input. -/
def digestPadsWrong : ChangeSpec := { name := "digestPads", fn := fun _ => fun
  | [d] => { results := [.lit (.bool false)], args := [d] }
  | _ => none }
def DigestPadsWrongFalsely : Prop := digestPadsRow.holds Tryd.pinned (OpenSpec.ofChange digestPadsWrong)

/-- 'suffragelaw05.DigestNames': WHATEVER THE INPUT: true; the input reads as it did. -/
def digestNamesSpec : ChangeSpec := { name := "digestNames", fn := fun _ => fun
  | [] => { results := [.lit (.bool true)], args := [] }
  | _ => none }
def digestNamesRow : OpenClaim := { program := "yteehmomhaaohhaadoor", sum := "0e79e402c442fcdeaa3474617720c5999e71f031ab43c38945585472aabcaa72", func := "suffrage/suffragelaw05.DigestNames", spec := "digestNames", unfollowed := true, recurses := true, named := ["suffrage/digest.first", "suffrage/digest.k"], apart := false, laid := [("suffrage/digest.k", laid_suffrage_digest_k), ("suffrage/digest.first", laid_suffrage_digest_first)] }
def DigestNamesSaid : Prop := digestNamesRow.holds Tryd.pinned (OpenSpec.ofChange digestNamesSpec)

/-- ITS FALSE NEIGHBOUR: 'it returns false'. Refute it at one input. -/
def digestNamesWrong : ChangeSpec := { name := "digestNames", fn := fun _ => fun
  | [] => { results := [.lit (.bool false)], args := [] }
  | _ => none }
def DigestNamesWrongFalsely : Prop := digestNamesRow.holds Tryd.pinned (OpenSpec.ofChange digestNamesWrong)

/-- 'suffragelaw05.DigestLimits': WHATEVER THE INPUT: true; the input reads as it did. -/
def digestLimitsSpec : ChangeSpec := { name := "digestLimits", fn := fun _ => fun
  | [d] => { results := [.lit (.bool true)], args := [d] }
  | _ => none }
def digestLimitsRow : OpenClaim := { program := "yteehmomhaaohhaadoor", sum := "0e79e402c442fcdeaa3474617720c5999e71f031ab43c38945585472aabcaa72", func := "suffrage/suffragelaw05.DigestLimits", spec := "digestLimits", unfollowed := true, recurses := true, named := ["suffrage/digest.first", "suffrage/digest.k"], apart := false, laid := [("suffrage/digest.k", laid_suffrage_digest_k), ("suffrage/digest.first", laid_suffrage_digest_first)] }
def DigestLimitsSaid : Prop := digestLimitsRow.holds Tryd.pinned (OpenSpec.ofChange digestLimitsSpec)

/-- ITS FALSE NEIGHBOUR: 'it returns false'. Refute it at one input. -/
def digestLimitsWrong : ChangeSpec := { name := "digestLimits", fn := fun _ => fun
  | [d] => { results := [.lit (.bool false)], args := [d] }
  | _ => none }
def DigestLimitsWrongFalsely : Prop := digestLimitsRow.holds Tryd.pinned (OpenSpec.ofChange digestLimitsWrong)

/-- 'suffragelaw05.DigestFolds': WHATEVER THE INPUT: true; the input reads as it did. -/
def digestFoldsSpec : ChangeSpec := { name := "digestFolds", fn := fun _ => fun
  | [d] => { results := [.lit (.bool true)], args := [d] }
  | _ => none }
def digestFoldsRow : OpenClaim := { program := "yteehmomhaaohhaadoor", sum := "0e79e402c442fcdeaa3474617720c5999e71f031ab43c38945585472aabcaa72", func := "suffrage/suffragelaw05.DigestFolds", spec := "digestFolds", unfollowed := true, recurses := true, named := ["suffrage/digest.first", "suffrage/digest.k"], apart := false, laid := [("suffrage/digest.k", laid_suffrage_digest_k), ("suffrage/digest.first", laid_suffrage_digest_first)] }
def DigestFoldsSaid : Prop := digestFoldsRow.holds Tryd.pinned (OpenSpec.ofChange digestFoldsSpec)

/-- ITS FALSE NEIGHBOUR: 'it returns false'. Refute it at one input. -/
def digestFoldsWrong : ChangeSpec := { name := "digestFolds", fn := fun _ => fun
  | [d] => { results := [.lit (.bool false)], args := [d] }
  | _ => none }
def DigestFoldsWrongFalsely : Prop := digestFoldsRow.holds Tryd.pinned (OpenSpec.ofChange digestFoldsWrong)

/-- 'suffragelaw05.DigestResumes': WHATEVER THE INPUT: true; the input reads as it did. -/
def digestResumesSpec : ChangeSpec := { name := "digestResumes", fn := fun _ => fun
  | [d1, d2] => { results := [.lit (.bool true)], args := [d1, d2] }
  | _ => none }
def digestResumesRow : OpenClaim := { program := "yteehmomhaaohhaadoor", sum := "0e79e402c442fcdeaa3474617720c5999e71f031ab43c38945585472aabcaa72", func := "suffrage/suffragelaw05.DigestResumes", spec := "digestResumes", unfollowed := true, recurses := true, named := ["suffrage/digest.first", "suffrage/digest.k"], apart := false, laid := [("suffrage/digest.k", laid_suffrage_digest_k), ("suffrage/digest.first", laid_suffrage_digest_first)] }
def DigestResumesSaid : Prop := digestResumesRow.holds Tryd.pinned (OpenSpec.ofChange digestResumesSpec)

/-- ITS FALSE NEIGHBOUR: 'it returns false'. Refute it at one input. -/
def digestResumesWrong : ChangeSpec := { name := "digestResumes", fn := fun _ => fun
  | [d1, d2] => { results := [.lit (.bool false)], args := [d1, d2] }
  | _ => none }
def DigestResumesWrongFalsely : Prop := digestResumesRow.holds Tryd.pinned (OpenSpec.ofChange digestResumesWrong)

/-- 'suffragelaw05.DigestNodes': WHATEVER THE INPUT: true; the input reads as it did. -/
def digestNodesSpec : ChangeSpec := { name := "digestNodes", fn := fun _ => fun
  | [d1, d2, d3] => { results := [.lit (.bool true)], args := [d1, d2, d3] }
  | _ => none }
def digestNodesRow : OpenClaim := { program := "yteehmomhaaohhaadoor", sum := "0e79e402c442fcdeaa3474617720c5999e71f031ab43c38945585472aabcaa72", func := "suffrage/suffragelaw05.DigestNodes", spec := "digestNodes", unfollowed := true, recurses := true, named := ["suffrage/digest.first", "suffrage/digest.k"], apart := false, laid := [("suffrage/digest.k", laid_suffrage_digest_k), ("suffrage/digest.first", laid_suffrage_digest_first)] }
def DigestNodesSaid : Prop := digestNodesRow.holds Tryd.pinned (OpenSpec.ofChange digestNodesSpec)

/-- ITS FALSE NEIGHBOUR: 'it returns false'. Refute it at one input. -/
def digestNodesWrong : ChangeSpec := { name := "digestNodes", fn := fun _ => fun
  | [d1, d2, d3] => { results := [.lit (.bool false)], args := [d1, d2, d3] }
  | _ => none }
def DigestNodesWrongFalsely : Prop := digestNodesRow.holds Tryd.pinned (OpenSpec.ofChange digestNodesWrong)

/-- 'suffragelaw05.DigestPrefixes': WHATEVER THE INPUT: true; the input reads as it did. -/
def digestPrefixesSpec : ChangeSpec := { name := "digestPrefixes", fn := fun _ => fun
  | [d1, d2, d3] => { results := [.lit (.bool true)], args := [d1, d2, d3] }
  | _ => none }
def digestPrefixesRow : OpenClaim := { program := "yteehmomhaaohhaadoor", sum := "0e79e402c442fcdeaa3474617720c5999e71f031ab43c38945585472aabcaa72", func := "suffrage/suffragelaw05.DigestPrefixes", spec := "digestPrefixes", unfollowed := true, recurses := true, named := ["suffrage/digest.first", "suffrage/digest.k"], apart := false, laid := [("suffrage/digest.k", laid_suffrage_digest_k), ("suffrage/digest.first", laid_suffrage_digest_first)] }
def DigestPrefixesSaid : Prop := digestPrefixesRow.holds Tryd.pinned (OpenSpec.ofChange digestPrefixesSpec)

/-- ITS FALSE NEIGHBOUR: 'it returns false'. Refute it at one input. -/
def digestPrefixesWrong : ChangeSpec := { name := "digestPrefixes", fn := fun _ => fun
  | [d1, d2, d3] => { results := [.lit (.bool false)], args := [d1, d2, d3] }
  | _ => none }
def DigestPrefixesWrongFalsely : Prop := digestPrefixesRow.holds Tryd.pinned (OpenSpec.ofChange digestPrefixesWrong)

/- THE SECOND FORM. 'bulk': how many values and letters a reading holds, each counted each time it is reached (what is shared counts as often as it is met; a slice's spare places count too). A statement '..UptoSaid' is the law's where the arguments, and the package variables that the reading takes, are together of bulk at most 1048576: NARROWER than '..Said'. Prove '..Said' where nothing that the law and all that it calls make is longer than what came in: it says more and counts as full. Else prove '..UptoSaid'. A law counts once. -/
mutual
def uptoBulk {H : Type} : DataW H → Nat
  | .lit (.string bytes) => bytes.length + 1
  | .lit _ => 1
  | .nil => 1
  | .ptr d => uptoBulk d + 1
  | .slice elems spare => uptoBulkAll elems + uptoBulkAll spare + 1
  | .agg parts => uptoBulkAll parts + 1
  | .iface _ d => uptoBulk d + 1
  | .map entries => uptoBulkEntries entries + 1
  | .held _ => 1
def uptoBulkAll {H : Type} : List (DataW H) → Nat
  | [] => 0
  | d :: r => uptoBulk d + uptoBulkAll r
def uptoBulkEntries {H : Type} : List (Lit × DataW H) → Nat
  | [] => 0
  | x :: r => uptoBulkEntry x + uptoBulkEntries r
def uptoBulkEntry {H : Type} : Lit × DataW H → Nat
  | (.string bytes, d) => bytes.length + uptoBulk d + 1
  | (_, d) => uptoBulk d + 1
 end
def uptoSmall : (H : Type) → List (DataW H) → Bool := fun _ ds => decide (uptoBulkAll ds ≤ 1048576)
def OpenSpec.upto (s : _root_.Go.ChangeSpec) : _root_.Go.OpenSpec := { _root_.Go.OpenSpec.ofChange s with cond := some uptoSmall }

/-- 'suffragelaw05.DigestCompress', WHERE WHAT IT READS IS OF BULK AT MOST 1048576: true; the input reads as it did. -/
def digestCompressUptoRow : OpenClaim := { program := "yteehmomhaaohhaadoor", sum := "0e79e402c442fcdeaa3474617720c5999e71f031ab43c38945585472aabcaa72", func := "suffrage/suffragelaw05.DigestCompress", spec := "digestCompress", named := ["suffrage/digest.k"], apart := false, laid := [("suffrage/digest.k", laid_suffrage_digest_k)], narrowed := true }
def DigestCompressUptoSaid : Prop := digestCompressUptoRow.holds Tryd.pinned (OpenSpec.upto digestCompressSpec)

/-- 'suffragelaw05.DigestSum', WHERE WHAT IT READS IS OF BULK AT MOST 1048576: true; the input reads as it did. -/
def digestSumUptoRow : OpenClaim := { program := "yteehmomhaaohhaadoor", sum := "0e79e402c442fcdeaa3474617720c5999e71f031ab43c38945585472aabcaa72", func := "suffrage/suffragelaw05.DigestSum", spec := "digestSum", unfollowed := true, recurses := true, named := ["suffrage/digest.first", "suffrage/digest.k"], apart := false, laid := [("suffrage/digest.k", laid_suffrage_digest_k), ("suffrage/digest.first", laid_suffrage_digest_first)], narrowed := true }
def DigestSumUptoSaid : Prop := digestSumUptoRow.holds Tryd.pinned (OpenSpec.upto digestSumSpec)

/-- 'suffragelaw05.DigestPads', WHERE WHAT IT READS IS OF BULK AT MOST 1048576: true; the input reads as it did. -/
def digestPadsUptoRow : OpenClaim := { program := "yteehmomhaaohhaadoor", sum := "0e79e402c442fcdeaa3474617720c5999e71f031ab43c38945585472aabcaa72", func := "suffrage/suffragelaw05.DigestPads", spec := "digestPads", unfollowed := true, recurses := true, named := ["suffrage/digest.first", "suffrage/digest.k"], apart := false, laid := [("suffrage/digest.k", laid_suffrage_digest_k), ("suffrage/digest.first", laid_suffrage_digest_first)], narrowed := true }
def DigestPadsUptoSaid : Prop := digestPadsUptoRow.holds Tryd.pinned (OpenSpec.upto digestPadsSpec)

/-- 'suffragelaw05.DigestNames', WHERE WHAT IT READS IS OF BULK AT MOST 1048576: true; the input reads as it did. -/
def digestNamesUptoRow : OpenClaim := { program := "yteehmomhaaohhaadoor", sum := "0e79e402c442fcdeaa3474617720c5999e71f031ab43c38945585472aabcaa72", func := "suffrage/suffragelaw05.DigestNames", spec := "digestNames", unfollowed := true, recurses := true, named := ["suffrage/digest.first", "suffrage/digest.k"], apart := false, laid := [("suffrage/digest.k", laid_suffrage_digest_k), ("suffrage/digest.first", laid_suffrage_digest_first)], narrowed := true }
def DigestNamesUptoSaid : Prop := digestNamesUptoRow.holds Tryd.pinned (OpenSpec.upto digestNamesSpec)

/-- 'suffragelaw05.DigestLimits', WHERE WHAT IT READS IS OF BULK AT MOST 1048576: true; the input reads as it did. -/
def digestLimitsUptoRow : OpenClaim := { program := "yteehmomhaaohhaadoor", sum := "0e79e402c442fcdeaa3474617720c5999e71f031ab43c38945585472aabcaa72", func := "suffrage/suffragelaw05.DigestLimits", spec := "digestLimits", unfollowed := true, recurses := true, named := ["suffrage/digest.first", "suffrage/digest.k"], apart := false, laid := [("suffrage/digest.k", laid_suffrage_digest_k), ("suffrage/digest.first", laid_suffrage_digest_first)], narrowed := true }
def DigestLimitsUptoSaid : Prop := digestLimitsUptoRow.holds Tryd.pinned (OpenSpec.upto digestLimitsSpec)

/-- 'suffragelaw05.DigestFolds', WHERE WHAT IT READS IS OF BULK AT MOST 1048576: true; the input reads as it did. -/
def digestFoldsUptoRow : OpenClaim := { program := "yteehmomhaaohhaadoor", sum := "0e79e402c442fcdeaa3474617720c5999e71f031ab43c38945585472aabcaa72", func := "suffrage/suffragelaw05.DigestFolds", spec := "digestFolds", unfollowed := true, recurses := true, named := ["suffrage/digest.first", "suffrage/digest.k"], apart := false, laid := [("suffrage/digest.k", laid_suffrage_digest_k), ("suffrage/digest.first", laid_suffrage_digest_first)], narrowed := true }
def DigestFoldsUptoSaid : Prop := digestFoldsUptoRow.holds Tryd.pinned (OpenSpec.upto digestFoldsSpec)

/-- 'suffragelaw05.DigestResumes', WHERE WHAT IT READS IS OF BULK AT MOST 1048576: true; the input reads as it did. -/
def digestResumesUptoRow : OpenClaim := { program := "yteehmomhaaohhaadoor", sum := "0e79e402c442fcdeaa3474617720c5999e71f031ab43c38945585472aabcaa72", func := "suffrage/suffragelaw05.DigestResumes", spec := "digestResumes", unfollowed := true, recurses := true, named := ["suffrage/digest.first", "suffrage/digest.k"], apart := false, laid := [("suffrage/digest.k", laid_suffrage_digest_k), ("suffrage/digest.first", laid_suffrage_digest_first)], narrowed := true }
def DigestResumesUptoSaid : Prop := digestResumesUptoRow.holds Tryd.pinned (OpenSpec.upto digestResumesSpec)

/-- 'suffragelaw05.DigestNodes', WHERE WHAT IT READS IS OF BULK AT MOST 1048576: true; the input reads as it did. -/
def digestNodesUptoRow : OpenClaim := { program := "yteehmomhaaohhaadoor", sum := "0e79e402c442fcdeaa3474617720c5999e71f031ab43c38945585472aabcaa72", func := "suffrage/suffragelaw05.DigestNodes", spec := "digestNodes", unfollowed := true, recurses := true, named := ["suffrage/digest.first", "suffrage/digest.k"], apart := false, laid := [("suffrage/digest.k", laid_suffrage_digest_k), ("suffrage/digest.first", laid_suffrage_digest_first)], narrowed := true }
def DigestNodesUptoSaid : Prop := digestNodesUptoRow.holds Tryd.pinned (OpenSpec.upto digestNodesSpec)

/-- 'suffragelaw05.DigestPrefixes', WHERE WHAT IT READS IS OF BULK AT MOST 1048576: true; the input reads as it did. -/
def digestPrefixesUptoRow : OpenClaim := { program := "yteehmomhaaohhaadoor", sum := "0e79e402c442fcdeaa3474617720c5999e71f031ab43c38945585472aabcaa72", func := "suffrage/suffragelaw05.DigestPrefixes", spec := "digestPrefixes", unfollowed := true, recurses := true, named := ["suffrage/digest.first", "suffrage/digest.k"], apart := false, laid := [("suffrage/digest.k", laid_suffrage_digest_k), ("suffrage/digest.first", laid_suffrage_digest_first)], narrowed := true }
def DigestPrefixesUptoSaid : Prop := digestPrefixesUptoRow.holds Tryd.pinned (OpenSpec.upto digestPrefixesSpec)

end Rows
end Go.Proofs.YteehmomhaaohhaaDoor
