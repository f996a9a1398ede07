/-
  Fields: a length of two bytes and the bytes; in the program and in the reference.
-/
import Derived.Test.YtjjoenbighmfoaaDoorOct1Uq
import Derived.Test.YtjjoenbighmfoaaDoorPackAUq
namespace Go.Proofs.YtjjoenbighmfoaaDoor
open Go Go.RowKit
set_option maxRecDepth 100000

def putF (lb lf : List UInt8) : List UInt8 := if 65535 < lf.length ∨ 16384 < lb.length + 2 + lf.length then [] else lb ++ fieldB lf
end Go.Proofs.YtjjoenbighmfoaaDoor
