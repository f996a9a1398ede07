/-
  The laws that compare with the reference.
-/
import Derived.Test.YtjjoenbighmfoaaDoorSmp7Sp
namespace Go.Proofs.YtjjoenbighmfoaaDoor
open Go Go.RowKit
set_option maxRecDepth 100000

end Go.Proofs.YtjjoenbighmfoaaDoor
