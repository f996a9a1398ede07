/-
  Consistency in the reference: proofs, lengths, following, verifying, peaks.
-/
import Derived.Test.YtopaednfjjjnbaaDoorCon1Nm
import Derived.Test.YtopaednfjjjnbaaDoorMer5Nm
import Derived.Test.YtopaednfjjjnbaaDoorPackDNm
import Derived.Test.YtopaednfjjjnbaaDoorPackBNm
namespace Go.Proofs.YtopaednfjjjnbaaDoor
open Go Go.RowKit
set_option maxRecDepth 100000

end Go.Proofs.YtopaednfjjjnbaaDoor
