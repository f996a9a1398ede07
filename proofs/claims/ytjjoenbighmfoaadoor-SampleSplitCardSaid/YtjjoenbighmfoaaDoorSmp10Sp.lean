/-
  The law of samples continued.
-/
import Derived.Test.YtjjoenbighmfoaaDoorSmp8Sp
namespace Go.Proofs.YtjjoenbighmfoaaDoor
open Go Go.RowKit
set_option maxRecDepth 100000

section
variable {s : List UInt8} {f : UInt32} {many : Int} {ss : List Int} {m : UInt64} {A B : Nat}
theorem toNat_add (hf : f.toNat ≤ 2147483648) (hA : A ≤ 60) : (f + UInt32.ofNat A).toNat = f.toNat + A := by
  have e : (UInt32.ofNat A).toNat = A := by
    rw [UInt32.toNat_ofNat']
    exact Nat.mod_eq_of_lt (by omega)
  rw [UInt32.toNat_add, e]
  exact Nat.mod_eq_of_lt (by omega)
end

end Go.Proofs.YtjjoenbighmfoaaDoor
