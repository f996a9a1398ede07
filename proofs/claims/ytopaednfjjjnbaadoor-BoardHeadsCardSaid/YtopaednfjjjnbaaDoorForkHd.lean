/-
  The plain law of the board's main theorem: where no two different nodes have one digest, an accepted proof says that the first list is a prefix of the second.
-/
import Derived.Test.YtopaednfjjjnbaaDoorPackDHd
namespace Go.Proofs.YtopaednfjjjnbaaDoor
open Go

/-- The nodes of a list's tree. -/
def nodesR (l : List Dig) : List (Dig × Dig) :=
  if h : l.length < 2 then [] else nodesR (l.take (bel l.length)) ++ nodesR (l.drop (bel l.length)) ++ [(rootR (l.take (bel l.length)), rootR (l.drop (bel l.length)))]
  termination_by l.length
  decreasing_by
    · have := bel_lt (n := l.length) (by omega); rw [List.length_take]; omega
    · have := bel_pos l.length; rw [List.length_drop]; omega
/-- The nodes that following a proof computes. -/
def stepsN (m n : Nat) (fr : Bool) (was : Dig) (p : List Dig) : List (Dig × Dig) :=
  if h : m = n ∨ n < 2 then []
  else if m ≤ bel n then stepsN m (bel n) fr was p.dropLast ++ [((ledC m (bel n) fr was p.dropLast).2, p.getLastD zeroD)]
  else stepsN (m - bel n) (n - bel n) false was p.dropLast ++ [(p.getLastD zeroD, (ledC (m - bel n) (n - bel n) false was p.dropLast).1), (p.getLastD zeroD, (ledC (m - bel n) (n - bel n) false was p.dropLast).2)]
  termination_by n
  decreasing_by
    all_goals first | exact bel_lt (by omega) | (have := bel_pos n; omega)
/-- No two different nodes have one digest. -/
def InjN (s : List (Dig × Dig)) : Prop := ∀ a ∈ s, ∀ b ∈ s, nodeD a.1 a.2 = nodeD b.1 b.2 → a = b
theorem InjN.sub {s t : List (Dig × Dig)} (h : InjN t) (hs : ∀ a ∈ s, a ∈ t) : InjN s := fun a ha b hb => h a (hs a ha) b (hs b hb)
end Go.Proofs.YtopaednfjjjnbaaDoor
