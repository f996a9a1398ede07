/-
  The laws that compare with the reference.
-/
import Derived.Test.YtjjoenbighmfoaaDoorSmp7Px
namespace Go.Proofs.YtjjoenbighmfoaaDoor
open Go Go.RowKit
set_option maxRecDepth 100000

theorem posV_le (s : List UInt8) (f : UInt32) (many : Int) (ss : List Int) : (posV s f many ss).length ≤ 1000000 := by
  unfold posV
  split
  · rw [List.length_map]; exact sampL_le _ _ _ _
  · simp

end Go.Proofs.YtjjoenbighmfoaaDoor
