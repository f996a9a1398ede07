/-
  The count of 1 bits by halves, for small numbers.
-/
import Derived.Test.YtimegpilihfghaaDoorCon
namespace Go.Proofs.YtimegpilihfghaaDoor
open Go

def pop64 (x : UInt64) : UInt64 :=
  let x1 := ((x >>> 1) &&& 0x5555555555555555) + (x &&& 0x5555555555555555)
  let x2 := ((x1 >>> 2) &&& 0x3333333333333333) + (x1 &&& 0x3333333333333333)
  let x3 := ((x2 >>> 4) + x2) &&& 0x0f0f0f0f0f0f0f0f
  let x4 := x3 + (x3 >>> 8)
  let x5 := x4 + (x4 >>> 16)
  let x6 := x5 + (x5 >>> 32)
  x6 &&& 127
def onesF : Nat → Nat → Nat
  | 0, _ => 0
  | f + 1, n => if n = 0 then 0 else n % 2 + onesF f (n / 2)
theorem ones_fuel : ∀ (f n : Nat), n < 2 ^ f → onesR n = onesF f n
  | 0, n, h => by
    have : n = 0 := by simpa using h
    subst this
    exact onesR_zero
  | f + 1, n, h => by
    by_cases h0 : n = 0
    · subst h0; rw [onesR_zero, onesF, if_pos rfl]
    · rw [onesR_pos h0, onesF, if_neg h0, ones_fuel f (n / 2) (by rw [Nat.pow_succ] at h; omega)]
theorem pop64_fin : ∀ n : Fin 1024, (pop64 (UInt64.ofNat n.1)).toNat = onesF 10 n.1 := by decide +kernel
theorem pop64_ones {n : Nat} (h : n < 1024) : (pop64 (UInt64.ofNat n)).toNat = onesR n := by
  rw [ones_fuel 10 n (by omega)]
  exact pop64_fin ⟨n, h⟩
/-- A power of two by its number of bits: 1 shifted by one less than the length of n - 1. -/
theorem bel_shift (n : Nat) : 1 <<< Nat.log2 (n - 1) = bel n := by rw [Nat.one_shiftLeft]; rfl
end Go.Proofs.YtimegpilihfghaaDoor
