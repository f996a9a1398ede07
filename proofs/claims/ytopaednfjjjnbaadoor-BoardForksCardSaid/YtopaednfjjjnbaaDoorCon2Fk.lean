/-
  Consistency in the reference: proofs, lengths, following, verifying, peaks.
-/
import Derived.Test.YtopaednfjjjnbaaDoorCon1Fk
import Derived.Test.YtopaednfjjjnbaaDoorMer5Fk
import Derived.Test.YtopaednfjjjnbaaDoorPackDFk
import Derived.Test.YtopaednfjjjnbaaDoorPackBFk
namespace Go.Proofs.YtopaednfjjjnbaaDoor
open Go Go.RowKit
set_option maxRecDepth 100000

theorem stepsC_succ {m n : Nat} {fr : Bool} (h1 : 1 ≤ m) (h : m < n) : ∃ k, stepsC m n fr = k + 1 := by
  by_cases hk : m ≤ bel n
  · exact ⟨_, stepsC_left h1 h hk⟩
  · exact ⟨_, stepsC_right h1 h hk⟩
theorem headD_get {ds : List Dig} {d : Dig} (h : ds[0]? = some d) : ds.headD zeroD = d := by
  cases ds with
  | nil => simp at h
  | cons x l => simpa using h

end Go.Proofs.YtopaednfjjjnbaaDoor
