/-
  NARROWER THAN 'FOR EVERY INPUT', by the rows' own cells (each row's printed sentence says how): DrawMixes: laid · DrawTells: laid · DrawSamples: laid · DrawLots: laid · DrawPerm: laid · DrawFronts: laid · DrawFirst: laid · DrawNames: laid.
  DERIVED. THE GIVEN ROWS OF THIS SEAT. 8 by the template 'for every input the law returns true; each argument reads behind the call as it read before'; 0 by the template 'total and deterministic' (their statements: YtegcdgpkoombmaaDoorTotals.lean).
  GIVEN WITH THE SEED: the statements are not yours to turn. If you find one false, say at which input.
  Laid BY PROGRAM, IN A SANDBOX (cutbox-rows.mjs): the forced cells as the released guide's own fill.sh prints them over the translation d2e485384a5bdb89… (all of the seat's roots in one cut). By AI agents, Wed Nov 11 2026. No macro, syntax, notation, axiom, sorry.
-/
import Derived.Test.YtegcdgpkoombmaaDoorChecked
import GoSem.Claim
import GoSem.ClaimJoined
import GoSem.ClaimMapViews
import Derived.JoinedTies
import Derived.KernelRfl
namespace Go.Proofs.YtegcdgpkoombmaaDoor
/- THE CELL 'sum', in the pinned program and in every row, IS THE sha256 OF THE DUMP (.gsa) THAT YtegcdgpkoombmaaDoorProg.lean LOADS. Nothing in Lean hashes anything: it is a label: what it is worth is what the hold of that sum in a sandbox is worth. -/
noncomputable def Tryd.pinned : Pinned := { name := "ytegcdgpkoombmaadoor", sum := "d2e485384a5bdb89f2fb8459c134d8542cd1f25c448f131fe1d35b85c9dfa955", checked := Tryd.checked }
namespace Rows
def none {H : Type} : Left H := { results := [], args := [] }

/- WHAT THE LISTED PACKAGE-LEVEL VARIABLES READ AS WHEN THE CALL BEGINS. Each datum BY PROGRAM (the guide's laid-datum.mjs) off the statement by which the dump's own 'gosem.cut.vars' lays the variable. In a bare row this is a premise. The card (YtegcdgpkoombmaaDoorCards.lean) ties it to the program's text. -/
def laid_suffrage_digest_k {H : Type} : DataW H := .agg [.lit (.int .u32 1116352408), .lit (.int .u32 1899447441), .lit (.int .u32 3049323471), .lit (.int .u32 3921009573), .lit (.int .u32 961987163), .lit (.int .u32 1508970993), .lit (.int .u32 2453635748), .lit (.int .u32 2870763221), .lit (.int .u32 3624381080), .lit (.int .u32 310598401), .lit (.int .u32 607225278), .lit (.int .u32 1426881987), .lit (.int .u32 1925078388), .lit (.int .u32 2162078206), .lit (.int .u32 2614888103), .lit (.int .u32 3248222580), .lit (.int .u32 3835390401), .lit (.int .u32 4022224774), .lit (.int .u32 264347078), .lit (.int .u32 604807628), .lit (.int .u32 770255983), .lit (.int .u32 1249150122), .lit (.int .u32 1555081692), .lit (.int .u32 1996064986), .lit (.int .u32 2554220882), .lit (.int .u32 2821834349), .lit (.int .u32 2952996808), .lit (.int .u32 3210313671), .lit (.int .u32 3336571891), .lit (.int .u32 3584528711), .lit (.int .u32 113926993), .lit (.int .u32 338241895), .lit (.int .u32 666307205), .lit (.int .u32 773529912), .lit (.int .u32 1294757372), .lit (.int .u32 1396182291), .lit (.int .u32 1695183700), .lit (.int .u32 1986661051), .lit (.int .u32 2177026350), .lit (.int .u32 2456956037), .lit (.int .u32 2730485921), .lit (.int .u32 2820302411), .lit (.int .u32 3259730800), .lit (.int .u32 3345764771), .lit (.int .u32 3516065817), .lit (.int .u32 3600352804), .lit (.int .u32 4094571909), .lit (.int .u32 275423344), .lit (.int .u32 430227734), .lit (.int .u32 506948616), .lit (.int .u32 659060556), .lit (.int .u32 883997877), .lit (.int .u32 958139571), .lit (.int .u32 1322822218), .lit (.int .u32 1537002063), .lit (.int .u32 1747873779), .lit (.int .u32 1955562222), .lit (.int .u32 2024104815), .lit (.int .u32 2227730452), .lit (.int .u32 2361852424), .lit (.int .u32 2428436474), .lit (.int .u32 2756734187), .lit (.int .u32 3204031479), .lit (.int .u32 3329325298)]
def laid_suffrage_digest_first {H : Type} : DataW H := .agg [.lit (.int .u32 1779033703), .lit (.int .u32 3144134277), .lit (.int .u32 1013904242), .lit (.int .u32 2773480762), .lit (.int .u32 1359893119), .lit (.int .u32 2600822924), .lit (.int .u32 528734635), .lit (.int .u32 1541459225)]

/-- 'suffragelaw06.DrawMixes': WHATEVER THE INPUT: true; the input reads as it did. -/
def drawMixesSpec : ChangeSpec := { name := "drawMixes", fn := fun _ => fun
  | [d] => { results := [.lit (.bool true)], args := [d] }
  | _ => none }
def drawMixesRow : OpenClaim := { program := "ytegcdgpkoombmaadoor", sum := "d2e485384a5bdb89f2fb8459c134d8542cd1f25c448f131fe1d35b85c9dfa955", func := "suffrage/suffragelaw06.DrawMixes", spec := "drawMixes", unfollowed := true, recurses := true, named := ["suffrage/digest.first", "suffrage/digest.k"], apart := false, laid := [("suffrage/digest.k", laid_suffrage_digest_k), ("suffrage/digest.first", laid_suffrage_digest_first)] }
def DrawMixesSaid : Prop := drawMixesRow.holds Tryd.pinned (OpenSpec.ofChange drawMixesSpec)

/-- ITS FALSE NEIGHBOUR: 'it returns false'. Refute it at one input. -/
def drawMixesWrong : ChangeSpec := { name := "drawMixes", fn := fun _ => fun
  | [d] => { results := [.lit (.bool false)], args := [d] }
  | _ => none }
def DrawMixesWrongFalsely : Prop := drawMixesRow.holds Tryd.pinned (OpenSpec.ofChange drawMixesWrong)

/-- 'suffragelaw06.DrawTells': WHATEVER THE INPUT: true; the input reads as it did. -/
def drawTellsSpec : ChangeSpec := { name := "drawTells", fn := fun _ => fun
  | [d1, d2, d3] => { results := [.lit (.bool true)], args := [d1, d2, d3] }
  | _ => none }
def drawTellsRow : OpenClaim := { program := "ytegcdgpkoombmaadoor", sum := "d2e485384a5bdb89f2fb8459c134d8542cd1f25c448f131fe1d35b85c9dfa955", func := "suffrage/suffragelaw06.DrawTells", spec := "drawTells", unfollowed := true, recurses := true, named := ["suffrage/digest.first", "suffrage/digest.k"], apart := false, laid := [("suffrage/digest.k", laid_suffrage_digest_k), ("suffrage/digest.first", laid_suffrage_digest_first)] }
def DrawTellsSaid : Prop := drawTellsRow.holds Tryd.pinned (OpenSpec.ofChange drawTellsSpec)

/-- ITS FALSE NEIGHBOUR: 'it returns false'. Refute it at one input. -/
def drawTellsWrong : ChangeSpec := { name := "drawTells", fn := fun _ => fun
  | [d1, d2, d3] => { results := [.lit (.bool false)], args := [d1, d2, d3] }
  | _ => none }
def DrawTellsWrongFalsely : Prop := drawTellsRow.holds Tryd.pinned (OpenSpec.ofChange drawTellsWrong)

/-- 'suffragelaw06.DrawSamples': WHATEVER THE INPUT: true; the input reads as it did. -/
def drawSamplesSpec : ChangeSpec := { name := "drawSamples", fn := fun _ => fun
  | [d1, d2, d3, d4] => { results := [.lit (.bool true)], args := [d1, d2, d3, d4] }
  | _ => none }
def drawSamplesRow : OpenClaim := { program := "ytegcdgpkoombmaadoor", sum := "d2e485384a5bdb89f2fb8459c134d8542cd1f25c448f131fe1d35b85c9dfa955", func := "suffrage/suffragelaw06.DrawSamples", spec := "drawSamples", unfollowed := true, recurses := true, named := ["suffrage/digest.first", "suffrage/digest.k"], apart := false, laid := [("suffrage/digest.k", laid_suffrage_digest_k), ("suffrage/digest.first", laid_suffrage_digest_first)] }
def DrawSamplesSaid : Prop := drawSamplesRow.holds Tryd.pinned (OpenSpec.ofChange drawSamplesSpec)

/-- ITS FALSE NEIGHBOUR: 'it returns false'. Refute it at one input. -/
def drawSamplesWrong : ChangeSpec := { name := "drawSamples", fn := fun _ => fun
  | [d1, d2, d3, d4] => { results := [.lit (.bool false)], args := [d1, d2, d3, d4] }
  | _ => none }
def DrawSamplesWrongFalsely : Prop := drawSamplesRow.holds Tryd.pinned (OpenSpec.ofChange drawSamplesWrong)

/-- 'suffragelaw06.DrawLots': WHATEVER THE INPUT: true; the input reads as it did. -/
def drawLotsSpec : ChangeSpec := { name := "drawLots", fn := fun _ => fun
  | [d1, d2] => { results := [.lit (.bool true)], args := [d1, d2] }
  | _ => none }
def drawLotsRow : OpenClaim := { program := "ytegcdgpkoombmaadoor", sum := "d2e485384a5bdb89f2fb8459c134d8542cd1f25c448f131fe1d35b85c9dfa955", func := "suffrage/suffragelaw06.DrawLots", spec := "drawLots", unfollowed := true, recurses := true, named := ["suffrage/digest.first", "suffrage/digest.k"], apart := false, laid := [("suffrage/digest.k", laid_suffrage_digest_k), ("suffrage/digest.first", laid_suffrage_digest_first)] }
def DrawLotsSaid : Prop := drawLotsRow.holds Tryd.pinned (OpenSpec.ofChange drawLotsSpec)

/-- ITS FALSE NEIGHBOUR: 'it returns false'. Refute it at one input. -/
def drawLotsWrong : ChangeSpec := { name := "drawLots", fn := fun _ => fun
  | [d1, d2] => { results := [.lit (.bool false)], args := [d1, d2] }
  | _ => none }
def DrawLotsWrongFalsely : Prop := drawLotsRow.holds Tryd.pinned (OpenSpec.ofChange drawLotsWrong)

/-- 'suffragelaw06.DrawPerm': WHATEVER THE INPUT: true; the input reads as it did. -/
def drawPermSpec : ChangeSpec := { name := "drawPerm", fn := fun _ => fun
  | [d1, d2] => { results := [.lit (.bool true)], args := [d1, d2] }
  | _ => none }
def drawPermRow : OpenClaim := { program := "ytegcdgpkoombmaadoor", sum := "d2e485384a5bdb89f2fb8459c134d8542cd1f25c448f131fe1d35b85c9dfa955", func := "suffrage/suffragelaw06.DrawPerm", spec := "drawPerm", unfollowed := true, recurses := true, named := ["suffrage/digest.first", "suffrage/digest.k"], apart := false, laid := [("suffrage/digest.k", laid_suffrage_digest_k), ("suffrage/digest.first", laid_suffrage_digest_first)] }
def DrawPermSaid : Prop := drawPermRow.holds Tryd.pinned (OpenSpec.ofChange drawPermSpec)

/-- ITS FALSE NEIGHBOUR: 'it returns false'. Refute it at one input. -/
def drawPermWrong : ChangeSpec := { name := "drawPerm", fn := fun _ => fun
  | [d1, d2] => { results := [.lit (.bool false)], args := [d1, d2] }
  | _ => none }
def DrawPermWrongFalsely : Prop := drawPermRow.holds Tryd.pinned (OpenSpec.ofChange drawPermWrong)

/-- 'suffragelaw06.DrawFronts': WHATEVER THE INPUT: true; the input reads as it did. -/
def drawFrontsSpec : ChangeSpec := { name := "drawFronts", fn := fun _ => fun
  | [d1, d2, d3, d4, d5] => { results := [.lit (.bool true)], args := [d1, d2, d3, d4, d5] }
  | _ => none }
def drawFrontsRow : OpenClaim := { program := "ytegcdgpkoombmaadoor", sum := "d2e485384a5bdb89f2fb8459c134d8542cd1f25c448f131fe1d35b85c9dfa955", func := "suffrage/suffragelaw06.DrawFronts", spec := "drawFronts", unfollowed := true, recurses := true, named := ["suffrage/digest.first", "suffrage/digest.k"], apart := false, laid := [("suffrage/digest.k", laid_suffrage_digest_k), ("suffrage/digest.first", laid_suffrage_digest_first)] }
def DrawFrontsSaid : Prop := drawFrontsRow.holds Tryd.pinned (OpenSpec.ofChange drawFrontsSpec)

/-- ITS FALSE NEIGHBOUR: 'it returns false'. Refute it at one input. -/
def drawFrontsWrong : ChangeSpec := { name := "drawFronts", fn := fun _ => fun
  | [d1, d2, d3, d4, d5] => { results := [.lit (.bool false)], args := [d1, d2, d3, d4, d5] }
  | _ => none }
def DrawFrontsWrongFalsely : Prop := drawFrontsRow.holds Tryd.pinned (OpenSpec.ofChange drawFrontsWrong)

/-- 'suffragelaw06.DrawFirst': WHATEVER THE INPUT: true; the input reads as it did. -/
def drawFirstSpec : ChangeSpec := { name := "drawFirst", fn := fun _ => fun
  | [d1, d2, d3, d4] => { results := [.lit (.bool true)], args := [d1, d2, d3, d4] }
  | _ => none }
def drawFirstRow : OpenClaim := { program := "ytegcdgpkoombmaadoor", sum := "d2e485384a5bdb89f2fb8459c134d8542cd1f25c448f131fe1d35b85c9dfa955", func := "suffrage/suffragelaw06.DrawFirst", spec := "drawFirst", unfollowed := true, recurses := true, named := ["suffrage/digest.first", "suffrage/digest.k"], apart := false, laid := [("suffrage/digest.k", laid_suffrage_digest_k), ("suffrage/digest.first", laid_suffrage_digest_first)] }
def DrawFirstSaid : Prop := drawFirstRow.holds Tryd.pinned (OpenSpec.ofChange drawFirstSpec)

/-- ITS FALSE NEIGHBOUR: 'it returns false'. Refute it at one input. -/
def drawFirstWrong : ChangeSpec := { name := "drawFirst", fn := fun _ => fun
  | [d1, d2, d3, d4] => { results := [.lit (.bool false)], args := [d1, d2, d3, d4] }
  | _ => none }
def DrawFirstWrongFalsely : Prop := drawFirstRow.holds Tryd.pinned (OpenSpec.ofChange drawFirstWrong)

/-- 'suffragelaw06.DrawNames': WHATEVER THE INPUT: true; the input reads as it did. -/
def drawNamesSpec : ChangeSpec := { name := "drawNames", fn := fun _ => fun
  | [] => { results := [.lit (.bool true)], args := [] }
  | _ => none }
def drawNamesRow : OpenClaim := { program := "ytegcdgpkoombmaadoor", sum := "d2e485384a5bdb89f2fb8459c134d8542cd1f25c448f131fe1d35b85c9dfa955", func := "suffrage/suffragelaw06.DrawNames", spec := "drawNames", unfollowed := true, recurses := true, named := ["suffrage/digest.first", "suffrage/digest.k"], apart := false, laid := [("suffrage/digest.k", laid_suffrage_digest_k), ("suffrage/digest.first", laid_suffrage_digest_first)] }
def DrawNamesSaid : Prop := drawNamesRow.holds Tryd.pinned (OpenSpec.ofChange drawNamesSpec)

/-- ITS FALSE NEIGHBOUR: 'it returns false'. Refute it at one input. -/
def drawNamesWrong : ChangeSpec := { name := "drawNames", fn := fun _ => fun
  | [] => { results := [.lit (.bool false)], args := [] }
  | _ => none }
def DrawNamesWrongFalsely : Prop := drawNamesRow.holds Tryd.pinned (OpenSpec.ofChange drawNamesWrong)

/- THE SECOND FORM. 'bulk': how many values and letters a reading holds, each counted each time it is reached (what is shared counts as often as it is met; a slice's spare places count too). A statement '..UptoSaid' is the law's where the arguments, and the package variables that the reading takes, are together of bulk at most 1048576: NARROWER than '..Said'. Prove '..Said' where nothing that the law and all that it calls make is longer than what came in: it says more and counts as full. Else prove '..UptoSaid'. A law counts once. -/
mutual
def uptoBulk {H : Type} : DataW H → Nat
  | .lit (.string bytes) => bytes.length + 1
  | .lit _ => 1
  | .nil => 1
  | .ptr d => uptoBulk d + 1
  | .slice elems spare => uptoBulkAll elems + uptoBulkAll spare + 1
  | .agg parts => uptoBulkAll parts + 1
  | .iface _ d => uptoBulk d + 1
  | .map entries => uptoBulkEntries entries + 1
  | .held _ => 1
def uptoBulkAll {H : Type} : List (DataW H) → Nat
  | [] => 0
  | d :: r => uptoBulk d + uptoBulkAll r
def uptoBulkEntries {H : Type} : List (Lit × DataW H) → Nat
  | [] => 0
  | x :: r => uptoBulkEntry x + uptoBulkEntries r
def uptoBulkEntry {H : Type} : Lit × DataW H → Nat
  | (.string bytes, d) => bytes.length + uptoBulk d + 1
  | (_, d) => uptoBulk d + 1
 end
def uptoSmall : (H : Type) → List (DataW H) → Bool := fun _ ds => decide (uptoBulkAll ds ≤ 1048576)
def OpenSpec.upto (s : _root_.Go.ChangeSpec) : _root_.Go.OpenSpec := { _root_.Go.OpenSpec.ofChange s with cond := some uptoSmall }

/-- 'suffragelaw06.DrawMixes', WHERE WHAT IT READS IS OF BULK AT MOST 1048576: true; the input reads as it did. -/
def drawMixesUptoRow : OpenClaim := { program := "ytegcdgpkoombmaadoor", sum := "d2e485384a5bdb89f2fb8459c134d8542cd1f25c448f131fe1d35b85c9dfa955", func := "suffrage/suffragelaw06.DrawMixes", spec := "drawMixes", unfollowed := true, recurses := true, named := ["suffrage/digest.first", "suffrage/digest.k"], apart := false, laid := [("suffrage/digest.k", laid_suffrage_digest_k), ("suffrage/digest.first", laid_suffrage_digest_first)], narrowed := true }
def DrawMixesUptoSaid : Prop := drawMixesUptoRow.holds Tryd.pinned (OpenSpec.upto drawMixesSpec)

/-- 'suffragelaw06.DrawTells', WHERE WHAT IT READS IS OF BULK AT MOST 1048576: true; the input reads as it did. -/
def drawTellsUptoRow : OpenClaim := { program := "ytegcdgpkoombmaadoor", sum := "d2e485384a5bdb89f2fb8459c134d8542cd1f25c448f131fe1d35b85c9dfa955", func := "suffrage/suffragelaw06.DrawTells", spec := "drawTells", unfollowed := true, recurses := true, named := ["suffrage/digest.first", "suffrage/digest.k"], apart := false, laid := [("suffrage/digest.k", laid_suffrage_digest_k), ("suffrage/digest.first", laid_suffrage_digest_first)], narrowed := true }
def DrawTellsUptoSaid : Prop := drawTellsUptoRow.holds Tryd.pinned (OpenSpec.upto drawTellsSpec)

/-- 'suffragelaw06.DrawSamples', WHERE WHAT IT READS IS OF BULK AT MOST 1048576: true; the input reads as it did. -/
def drawSamplesUptoRow : OpenClaim := { program := "ytegcdgpkoombmaadoor", sum := "d2e485384a5bdb89f2fb8459c134d8542cd1f25c448f131fe1d35b85c9dfa955", func := "suffrage/suffragelaw06.DrawSamples", spec := "drawSamples", unfollowed := true, recurses := true, named := ["suffrage/digest.first", "suffrage/digest.k"], apart := false, laid := [("suffrage/digest.k", laid_suffrage_digest_k), ("suffrage/digest.first", laid_suffrage_digest_first)], narrowed := true }
def DrawSamplesUptoSaid : Prop := drawSamplesUptoRow.holds Tryd.pinned (OpenSpec.upto drawSamplesSpec)

/-- 'suffragelaw06.DrawLots', WHERE WHAT IT READS IS OF BULK AT MOST 1048576: true; the input reads as it did. -/
def drawLotsUptoRow : OpenClaim := { program := "ytegcdgpkoombmaadoor", sum := "d2e485384a5bdb89f2fb8459c134d8542cd1f25c448f131fe1d35b85c9dfa955", func := "suffrage/suffragelaw06.DrawLots", spec := "drawLots", unfollowed := true, recurses := true, named := ["suffrage/digest.first", "suffrage/digest.k"], apart := false, laid := [("suffrage/digest.k", laid_suffrage_digest_k), ("suffrage/digest.first", laid_suffrage_digest_first)], narrowed := true }
def DrawLotsUptoSaid : Prop := drawLotsUptoRow.holds Tryd.pinned (OpenSpec.upto drawLotsSpec)

/-- 'suffragelaw06.DrawPerm', WHERE WHAT IT READS IS OF BULK AT MOST 1048576: true; the input reads as it did. -/
def drawPermUptoRow : OpenClaim := { program := "ytegcdgpkoombmaadoor", sum := "d2e485384a5bdb89f2fb8459c134d8542cd1f25c448f131fe1d35b85c9dfa955", func := "suffrage/suffragelaw06.DrawPerm", spec := "drawPerm", unfollowed := true, recurses := true, named := ["suffrage/digest.first", "suffrage/digest.k"], apart := false, laid := [("suffrage/digest.k", laid_suffrage_digest_k), ("suffrage/digest.first", laid_suffrage_digest_first)], narrowed := true }
def DrawPermUptoSaid : Prop := drawPermUptoRow.holds Tryd.pinned (OpenSpec.upto drawPermSpec)

/-- 'suffragelaw06.DrawFronts', WHERE WHAT IT READS IS OF BULK AT MOST 1048576: true; the input reads as it did. -/
def drawFrontsUptoRow : OpenClaim := { program := "ytegcdgpkoombmaadoor", sum := "d2e485384a5bdb89f2fb8459c134d8542cd1f25c448f131fe1d35b85c9dfa955", func := "suffrage/suffragelaw06.DrawFronts", spec := "drawFronts", unfollowed := true, recurses := true, named := ["suffrage/digest.first", "suffrage/digest.k"], apart := false, laid := [("suffrage/digest.k", laid_suffrage_digest_k), ("suffrage/digest.first", laid_suffrage_digest_first)], narrowed := true }
def DrawFrontsUptoSaid : Prop := drawFrontsUptoRow.holds Tryd.pinned (OpenSpec.upto drawFrontsSpec)

/-- 'suffragelaw06.DrawFirst', WHERE WHAT IT READS IS OF BULK AT MOST 1048576: true; the input reads as it did. -/
def drawFirstUptoRow : OpenClaim := { program := "ytegcdgpkoombmaadoor", sum := "d2e485384a5bdb89f2fb8459c134d8542cd1f25c448f131fe1d35b85c9dfa955", func := "suffrage/suffragelaw06.DrawFirst", spec := "drawFirst", unfollowed := true, recurses := true, named := ["suffrage/digest.first", "suffrage/digest.k"], apart := false, laid := [("suffrage/digest.k", laid_suffrage_digest_k), ("suffrage/digest.first", laid_suffrage_digest_first)], narrowed := true }
def DrawFirstUptoSaid : Prop := drawFirstUptoRow.holds Tryd.pinned (OpenSpec.upto drawFirstSpec)

/-- 'suffragelaw06.DrawNames', WHERE WHAT IT READS IS OF BULK AT MOST 1048576: true; the input reads as it did. -/
def drawNamesUptoRow : OpenClaim := { program := "ytegcdgpkoombmaadoor", sum := "d2e485384a5bdb89f2fb8459c134d8542cd1f25c448f131fe1d35b85c9dfa955", func := "suffrage/suffragelaw06.DrawNames", spec := "drawNames", unfollowed := true, recurses := true, named := ["suffrage/digest.first", "suffrage/digest.k"], apart := false, laid := [("suffrage/digest.k", laid_suffrage_digest_k), ("suffrage/digest.first", laid_suffrage_digest_first)], narrowed := true }
def DrawNamesUptoSaid : Prop := drawNamesUptoRow.holds Tryd.pinned (OpenSpec.upto drawNamesSpec)

end Rows
end Go.Proofs.YtegcdgpkoombmaaDoor
