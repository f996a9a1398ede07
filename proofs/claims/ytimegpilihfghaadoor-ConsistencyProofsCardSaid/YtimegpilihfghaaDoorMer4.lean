/-
  The length of a path; following a path; in the reference and in the program.
-/
import Derived.Test.YtimegpilihfghaaDoorMer3
namespace Go.Proofs.YtimegpilihfghaaDoor
open Go Go.RowKit
set_option maxRecDepth 100000

theorem Dl.init {w : World} {oa : Option Addr} {cap : Nat} {q : List Dig} {y : Dig} (h : Dl w oa cap (q ++ [y])) : Dl w oa cap q := by
  have := Dl.take h (k := q.length) (by simp)
  rwa [List.take_left' rfl] at this
def badT (i n : Int) : Prop := n < 1 ∨ 1024 < n ∨ i < 0 ∨ n ≤ i
instance (i n : Int) : Decidable (badT i n) := inferInstanceAs (Decidable (_ ∨ _))
def plV (i n : Int) : Nat := if badT i n then 0 else stepsR i.toNat n.toNat
def plE (i n : Int) : Int := if badT i n then 2 else 0
theorem plV_bad {i n : Int} (h : badT i n) : plV i n = 0 := if_pos h
theorem plE_bad {i n : Int} (h : badT i n) : plE i n = 2 := if_pos h
theorem plV_ok {i n : Nat} (h : ¬ badT (i : Int) (n : Int)) : plV i n = stepsR i n := if_neg h
theorem plE_ok {i n : Int} (h : ¬ badT i n) : plE i n = 0 := if_neg h
def foV (x : Dig) (i n : Int) (ds : List Dig) : Dig := if badT i n then zeroD else if ds.length ≠ stepsR i.toNat n.toNat then zeroD else ledR x i.toNat n.toNat ds
def foE (i n : Int) (ds : List Dig) : Int := if badT i n then 2 else if ds.length ≠ stepsR i.toNat n.toNat then 280 else 0
section
variable {x : Dig} {ds : List Dig}
theorem foV_bad {i n : Int} (h : badT i n) : foV x i n ds = zeroD := if_pos h
theorem foE_bad {i n : Int} (h : badT i n) : foE i n ds = 2 := if_pos h
theorem foV_ne {i n : Nat} (h : ¬ badT (i : Int) (n : Int)) (h1 : ds.length ≠ stepsR i n) : foV x i n ds = zeroD := (if_neg h).trans (if_pos h1)
theorem foE_ne {i n : Nat} (h : ¬ badT (i : Int) (n : Int)) (h1 : ds.length ≠ stepsR i n) : foE i n ds = 280 := (if_neg h).trans (if_pos h1)
theorem foV_ok {i n : Nat} (h : ¬ badT (i : Int) (n : Int)) (h1 : ds.length = stepsR i n) : foV x i n ds = ledR x i n ds := (if_neg h).trans (if_neg (fun h2 => h2 h1))
theorem foE_ok {i n : Nat} (h : ¬ badT (i : Int) (n : Int)) (h1 : ds.length = stepsR i n) : foE i n ds = 0 := (if_neg h).trans (if_neg (fun h2 => h2 h1))
end
theorem turn_yes {i n : Nat} (h : decide ((i : Int) % 2 = 1) = true) : Value.agg #[.bool true, .bool (decide ((i : Int) % 2 = 1))] = .agg #[.bool (isT i n), .bool (decide (i % 2 = 1))] := by
  have h1 := of_decide_eq_true h
  have h2 : i % 2 = 1 := by omega
  have e1 : isT i n = true := decide_eq_true (.inl h2)
  rw [e1, h, decide_eq_true h2]
theorem turn_no {i n : Nat} (h : decide ((i : Int) % 2 = 1) = false) : Value.agg #[.bool (decide ((i : Int) + 1 < (n : Int))), .bool (decide ((i : Int) % 2 = 1))] = .agg #[.bool (isT i n), .bool (decide (i % 2 = 1))] := by
  have h1 := of_decide_eq_false h
  have h2 : ¬ i % 2 = 1 := by omega
  have e1 : isT i n = decide ((i : Int) + 1 < (n : Int)) := decide_eq_decide.2 (by omega)
  rw [e1, h, decide_eq_false h2]

end Go.Proofs.YtimegpilihfghaaDoor
