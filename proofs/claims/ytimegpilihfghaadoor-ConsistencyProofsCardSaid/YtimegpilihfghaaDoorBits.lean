/-
  The laws of the operations that the counts of bits want: 'and', a shift of 1, an element of a text.
-/
import Derived.Test.YtimegpilihfghaaDoorPop
import Derived.Test.YtimegpilihfghaaDoorDig
namespace Go.Proofs.YtimegpilihfghaaDoor
open Go Go.RowKit

section
variable {P : Program} {T : TypeId}
theorem and_u64 {x y : UInt64} : Bin P .and T (u64 x) (u64 y) (u64 (x &&& y)) := Bin.int fun w => by
  have e : ∀ z : UInt64, BitVec.ofInt 64 (z.toNat : Int) = z.toBitVec := fun z => by
    rw [BitVec.ofInt_natCast]; exact BitVec.eq_of_toNat_eq (by simp)
  have h : (z : UInt64) → IntKind.u64.wrap (z.toNat : Int) = (z.toNat : Int) := fun z => wrap_u64n _ z.toNat_lt
  show (binOp .and T (.int .u64 (x.toNat : Int)) (.int .u64 (y.toNat : Int))).run P w = _
  simp only [binOp, Op.intBits, IntKind.bits, e]
  exact congrArg (fun n => Result.ok (Value.int IntKind.u64 n) w) (h (x &&& y))
theorem and127_i64 {n : Nat} (hn : n < 9223372036854775808) : Bin P .and T (.int .i64 (n : Int)) (.int .i64 127) (.int .i64 ((n % 128 : Nat) : Int)) := Bin.int fun w => by
  have e1 : BitVec.ofInt 64 (n : Int) = BitVec.ofNat 64 n := BitVec.ofInt_natCast ..
  have e3 : (BitVec.ofInt 64 (n : Int) &&& BitVec.ofInt 64 127).toNat = n % 128 := by
    have e2 : BitVec.ofInt 64 127 = BitVec.ofNat 64 127 := rfl
    rw [e1, e2, BitVec.toNat_and, BitVec.toNat_ofNat, BitVec.toNat_ofNat, Nat.mod_eq_of_lt (by omega), Nat.mod_eq_of_lt (by omega)]
    exact Nat.and_two_pow_sub_one_eq_mod n 7
  have e4 : IntKind.i64.wrap (((BitVec.ofInt 64 (n : Int) &&& BitVec.ofInt 64 127).toNat : Nat) : Int) = ((n % 128 : Nat) : Int) := by
    rw [e3]; exact IntWalk.i64_in _ (by omega)
  simp only [binOp, Op.intBits, IntKind.bits]
  exact congrArg (fun n => Result.ok (Value.int IntKind.i64 n) w) e4
theorem shl1_i64 {n : Nat} (hn : n < 62) : Bin P .shl T (.int .i64 1) (.int .i64 (n : Int)) (.int .i64 ((2 ^ n : Nat) : Int)) := Bin.int fun w => by
  have hlt : 2 ^ n < 2 ^ 62 := Nat.pow_lt_pow_right (by decide) hn
  have h : IntKind.i64.wrap ((1 : Int) * 2 ^ n) = ((2 ^ n : Nat) : Int) := by
    have e : ((2 : Int) ^ n) = ((2 ^ n : Nat) : Int) := by simp
    rw [e, Int.one_mul]
    have h62 : (2 : Nat) ^ 62 = 4611686018427387904 := by decide
    generalize 2 ^ n = p at hlt ⊢
    exact IntWalk.i64_in _ (by omega)
  have hm : min n 64 = n := by omega
  have hneg : ¬ ((n : Int) < 0) := by omega
  simp only [binOp, Op.shift, if_neg hneg, Int.toNat_natCast]
  show Sem.run P (pure _) w = _
  rw [show min n IntKind.i64.bits = n from hm]
  rw [h]; rfl
end
section
variable {c : Cx} {σ : Slots} {H : Blocks} {ty : TypeId} {pos : String} {af : Array Edge} {gd : Option (Nat × Bool)} {dst : Option Nat}
theorem Ev.indexStr {T : TypeId} {x y : Operand} {s : ByteArray} {i b : UInt8} (hx : ev σ x = some (.string s)) (hy : ev σ y = some (u8 i)) (hu : c.P.underlying T = some .string) (hb : s[i.toNat]? = some b) :
    Ev c σ H ⟨dst, .index T x y, ty, pos, af, gd⟩ (u8 b) := fun A w hf _ => by
  have e : execOp A.eval ⟨dst, .index T x y, ty, pos, af, gd⟩ = (do pure (Next.value (← Instr.index T (A.eval x) (A.eval y)))) := rfl
  rw [e, hf.ev hx, hf.ev hy]
  have h0 : (0 : Int) ≤ (i.toNat : Int) := Int.natCast_nonneg _
  simp [Instr.index, asIntOf, u8, run_underlying hu, h0, hb]
end
def len8 (n : Nat) : Nat := if n = 0 then 0 else Nat.log2 n + 1
theorem tab_get {s : ByteArray} (h : ∀ i : Fin 256, s[i.1]? = some (UInt8.ofNat (len8 i.1))) (i : UInt8) : s[i.toNat]? = some (UInt8.ofNat (len8 i.toNat)) := h ⟨i.toNat, i.toNat_lt⟩
theorem len8_shift {n : Nat} (h1 : 256 ≤ n) (h2 : n < 65536) : len8 n = 8 + len8 (n / 256) := by
  have h0 : n / 256 ≠ 0 := by omega
  unfold len8
  rw [if_neg (by omega), if_neg h0]
  have h3 := (Nat.log2_eq_iff h0).1 rfl
  have h4 : Nat.log2 n = Nat.log2 (n / 256) + 8 := (Nat.log2_eq_iff (by omega)).2 (by
    have e9 : 2 ^ (Nat.log2 (n / 256) + 8) = 2 ^ Nat.log2 (n / 256) * 256 := Nat.pow_add 2 _ 8
    have e10 : 2 ^ (Nat.log2 (n / 256) + 8 + 1) = 2 ^ (Nat.log2 (n / 256) + 8) * 2 := Nat.pow_succ ..
    have e11 : 2 ^ (Nat.log2 (n / 256) + 1) = 2 ^ Nat.log2 (n / 256) * 2 := Nat.pow_succ ..
    rw [e10, e9]
    rw [e11] at h3
    omega)
  omega
theorem len8_le {n : Nat} (h : n < 256) : len8 n < 9 := by
  unfold len8
  split
  · omega
  · have h3 := (Nat.log2_eq_iff (n := n) (by assumption)).1 rfl
    have : 2 ^ Nat.log2 n < 2 ^ 8 := by omega
    have := (Nat.pow_lt_pow_iff_right (a := 2) (by decide)).1 this
    omega
def pop6 (x : UInt64) : UInt64 :=
  let x1 := ((x >>> 1) &&& 0x5555555555555555) + (x &&& 0x5555555555555555)
  let x2 := ((x1 >>> 2) &&& 0x3333333333333333) + (x1 &&& 0x3333333333333333)
  let x3 := ((x2 >>> 4) + x2) &&& 0x0f0f0f0f0f0f0f0f
  let x4 := x3 + (x3 >>> 8)
  let x5 := x4 + (x4 >>> 16)
  x5 + (x5 >>> 32)
theorem pop6_fin : ∀ n : Fin 1024, (pop6 (UInt64.ofNat n.1)).toNat < 65536 ∧ (pop6 (UInt64.ofNat n.1)).toNat % 128 = onesF 10 n.1 := by decide +kernel
theorem pop6_lt {n : Nat} (h : n < 1024) : (pop6 (UInt64.ofNat n)).toNat < 65536 := (pop6_fin ⟨n, h⟩).1
theorem pop6_ones {n : Nat} (h : n < 1024) : (pop6 (UInt64.ofNat n)).toNat % 128 = onesR n := by
  rw [ones_fuel 10 n (by omega)]
  exact (pop6_fin ⟨n, h⟩).2
end Go.Proofs.YtimegpilihfghaaDoor
