/-
  Consistency in the reference: verifying; peaks, appending, the root of peaks.
-/
import Derived.Test.YtopaednfjjjnbaaDoorCon2Nm
namespace Go.Proofs.YtopaednfjjjnbaaDoor
open Go Go.RowKit
set_option maxRecDepth 100000

def badC (i n : Int) : Prop := n < 1 ∨ 1024 < n ∨ i < 1 ∨ n < i
instance (i n : Int) : Decidable (badC i n) := inferInstanceAs (Decidable (_ ∨ _))
def pcV (i n : Int) : Nat := if badC i n then 0 else stepsC i.toNat n.toNat true
def pcE (i n : Int) : Int := if badC i n then 2 else 0
theorem pcV_bad {i n : Int} (h : badC i n) : pcV i n = 0 := if_pos h
theorem pcE_bad {i n : Int} (h : badC i n) : pcE i n = 2 := if_pos h
theorem pcV_ok {i n : Nat} (h : ¬ badC (i : Int) (n : Int)) : pcV i n = stepsC i n true := if_neg h
theorem pcE_ok {i n : Int} (h : ¬ badC i n) : pcE i n = 0 := if_neg h
def fcV (x : Dig) (i n : Int) (ds : List Dig) : Dig × Dig := if badC i n then (zeroD, zeroD) else if ds.length ≠ stepsC i.toNat n.toNat true then (zeroD, zeroD) else ledC i.toNat n.toNat true x ds
def fcE (i n : Int) (ds : List Dig) : Int := if badC i n then 2 else if ds.length ≠ stepsC i.toNat n.toNat true then 290 else 0
section
variable {x : Dig} {ds : List Dig}
theorem fcV_bad {i n : Int} (h : badC i n) : fcV x i n ds = (zeroD, zeroD) := if_pos h
theorem fcE_bad {i n : Int} (h : badC i n) : fcE i n ds = 2 := if_pos h
theorem fcV_ne {i n : Nat} (h : ¬ badC (i : Int) (n : Int)) (h1 : ds.length ≠ stepsC i n true) : fcV x i n ds = (zeroD, zeroD) := (if_neg h).trans (if_pos h1)
theorem fcE_ne {i n : Nat} (h : ¬ badC (i : Int) (n : Int)) (h1 : ds.length ≠ stepsC i n true) : fcE i n ds = 290 := (if_neg h).trans (if_pos h1)
theorem fcV_ok {i n : Nat} (h : ¬ badC (i : Int) (n : Int)) (h1 : ds.length = stepsC i n true) : fcV x i n ds = ledC i n true x ds := (if_neg h).trans (if_neg (fun h2 => h2 h1))
theorem fcE_ok {i n : Nat} (h : ¬ badC (i : Int) (n : Int)) (h1 : ds.length = stepsC i n true) : fcE i n ds = 0 := (if_neg h).trans (if_neg (fun h2 => h2 h1))
end
def vcV (x y : Dig) (i n : Int) (ds : List Dig) : Bool := if fcE i n ds = 2 then false else decide (fcE i n ds = 0) && (decide ((fcV x i n ds).1.1 = x.1) && decide ((fcV x i n ds).2.1 = y.1))
def vcE (i n : Int) (ds : List Dig) : Int := if fcE i n ds = 2 then 2 else 0
section
variable {x y : Dig} {i n : Int} {ds : List Dig}
theorem vcV_bad (h : fcE i n ds = 2) : vcV x y i n ds = false := if_pos h
theorem vcE_bad (h : fcE i n ds = 2) : vcE i n ds = 2 := if_pos h
theorem vcE_ok (h : ¬ fcE i n ds = 2) : vcE i n ds = 0 := if_neg h
theorem vcV_e (h : ¬ fcE i n ds = 2) (h0 : ¬ fcE i n ds = 0) : vcV x y i n ds = false := by unfold vcV; rw [if_neg h, decide_eq_false h0]; rfl
theorem vcV_o (h : ¬ fcE i n ds = 2) (h0 : ¬ (fcV x i n ds).1.1 = x.1) : vcV x y i n ds = false := by unfold vcV; rw [if_neg h, decide_eq_false h0, Bool.false_and, Bool.and_false]
theorem vcV_y (h : ¬ fcE i n ds = 2) (h0 : fcE i n ds = 0) (h1 : (fcV x i n ds).1.1 = x.1) : vcV x y i n ds = decide ((fcV x i n ds).2.1 = y.1) := by unfold vcV; rw [if_neg h, decide_eq_true h0, decide_eq_true h1, Bool.true_and, Bool.true_and]
end
def pkV (ds : List Dig) : List Dig := if 1024 < ds.length then [] else overR ds
def pkE (ds : List Dig) : Int := if 1024 < ds.length then 4 else 0
section
variable {ds : List Dig}
end
def badA (ds : List Dig) (n : Int) : Prop := n < 0 ∨ 1024 ≤ n ∨ ds.length ≠ onesR n.toNat
instance (ds : List Dig) (n : Int) : Decidable (badA ds n) := inferInstanceAs (Decidable (_ ∨ _))
def apV (ds : List Dig) (n : Int) (x : Dig) : List Dig := if badA ds n then [] else withR ds n.toNat x
def apE (ds : List Dig) (n : Int) : Int := if badA ds n then 2 else 0
section
variable {ds : List Dig} {n : Int} {x : Dig}
end

end Go.Proofs.YtopaednfjjjnbaaDoor
