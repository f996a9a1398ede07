/-
  The laws that compare with the reference.
-/
import Derived.Test.YtjjoenbighmfoaaDoorSmp7Uq
namespace Go.Proofs.YtjjoenbighmfoaaDoor
open Go Go.RowKit
set_option maxRecDepth 100000

theorem inB_le (l : List Pl) (m : Int) : (inB l m).length ≤ l.length := by
  have h1 := inBk_le (unL l) (unL l).length m
  rw [inBk_all] at h1
  exact Nat.le_trans h1 (unL_le l)
end Go.Proofs.YtjjoenbighmfoaaDoor
