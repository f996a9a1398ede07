/-
  Boards copied and appended to; in the program and in the reference.
-/
import Derived.Test.YtopaednfjjjnbaaDoorBrd2Hd
import Derived.Test.YtopaednfjjjnbaaDoorPackBHd
namespace Go.Proofs.YtopaednfjjjnbaaDoor
open Go Go.RowKit
set_option maxRecDepth 100000

end Go.Proofs.YtopaednfjjjnbaaDoor
