/-
  Boards: an entry appended; the chapter's examples.
-/
import Derived.Test.YtopaednfjjjnbaaDoorBrd3Hd
namespace Go.Proofs.YtopaednfjjjnbaaDoor
open Go Go.RowKit
set_option maxRecDepth 100000

def adV (xs : List Ent) (x : Ent) : List Ent := if ¬ okB xs then [] else if okE x = false then [] else if xs.length = 1024 then [] else xs ++ [x]
def adE (xs : List Ent) (x : Ent) : Int := if ¬ okB xs then 8 else if okE x = false then 2 else if xs.length = 1024 then 9 else 0
section
variable {xs : List Ent} {x : Ent}
end
end Go.Proofs.YtopaednfjjjnbaaDoor
