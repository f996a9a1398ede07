/-
  Unsigned numbers of eight bytes: the laws of their operations; numbers as bytes.
-/
import Derived.Test.YtebinlinhmohbaaDoorMore
namespace Go.Proofs.YtebinlinhmohbaaDoor
open Go Go.RowKit

section
variable {P : Program} {T : TypeId}
theorem add_u64 {x y : UInt64} : Bin P .add T (u64 x) (u64 y) (u64 (x + y)) := Bin.int fun w => by
  simp only [binOp, Op.intArith, u64]
  have h : IntKind.u64.wrap ((x.toNat : Int) + y.toNat) = ((x + y).toNat : Int) := by
    rw [IntKind.wrap_u64, UInt64.toNat_add]; omega
  simp [h]
theorem sub_u64 {x y : UInt64} : Bin P .sub T (u64 x) (u64 y) (u64 (x - y)) := Bin.int fun w => by
  simp only [binOp, Op.intArith, u64]
  have h : IntKind.u64.wrap ((x.toNat : Int) - y.toNat) = ((x - y).toNat : Int) := by
    have h1 := x.toNat_lt
    have h2 := y.toNat_lt
    rw [IntKind.wrap_u64, UInt64.toNat_sub]; omega
  simp [h]
theorem or_u64 {x y : UInt64} : Bin P .or T (u64 x) (u64 y) (u64 (x ||| y)) := Bin.int fun w => by
  simp only [binOp, Op.intBits, ofInt_u64, u64]
  have := (x ||| y).toNat_lt
  exact congrArg (fun n => Result.ok (Value.int IntKind.u64 n) w) (wrap_u64n _ this)
theorem quo_u64 {x y : UInt64} (hy : y ≠ 0) : Bin P .quo T (u64 x) (u64 y) (u64 (x / y)) := Bin.int fun w => by
  have h0 : ¬ (y.toNat : Int) = 0 := fun h => hy (by
    apply UInt64.toNat_inj.1
    have : y.toNat = 0 := by omega
    simpa using this)
  have h := wrap_u64n (x / y).toNat (x / y).toNat_lt
  rw [UInt64.toNat_div] at h
  have e : (x.toNat : Int).tdiv y.toNat = ((x.toNat / y.toNat : Nat) : Int) := by simp [Int.tdiv]
  have h0n : ¬ y.toNat = 0 := by omega
  have h' : IntKind.u64.wrap ((x.toNat : Int) / (y.toNat : Int)) = (x.toNat : Int) / (y.toNat : Int) := by simpa using h
  simp only [binOp, Op.intDiv, u64, UInt64.toNat_div]
  simp [h0n, e, h']
theorem rem_u64 {x y : UInt64} (hy : y ≠ 0) : Bin P .rem T (u64 x) (u64 y) (u64 (x % y)) := Bin.int fun w => by
  have h0 : ¬ (y.toNat : Int) = 0 := fun h => hy (by
    apply UInt64.toNat_inj.1
    have : y.toNat = 0 := by omega
    simpa using this)
  have h := wrap_u64n (x % y).toNat (x % y).toNat_lt
  rw [UInt64.toNat_mod] at h
  have e : (x.toNat : Int).tmod y.toNat = ((x.toNat % y.toNat : Nat) : Int) := by simp [Int.tmod]
  have h0n : ¬ y.toNat = 0 := by omega
  simp only [binOp, Op.intDiv, u64, UInt64.toNat_mod]
  simp [h0n, e]
theorem rem_u8 {x y : UInt8} (hy : y ≠ 0) : Bin P .rem T (u8 x) (u8 y) (u8 (x % y)) := Bin.int fun w => by
  have h0 : ¬ (y.toNat : Int) = 0 := fun h => hy (by
    apply UInt8.toNat_inj.1
    have : y.toNat = 0 := by omega
    simpa using this)
  have h := wrap_u8n (x % y).toNat (x % y).toNat_lt
  rw [UInt8.toNat_mod] at h
  have e : (x.toNat : Int).tmod y.toNat = ((x.toNat % y.toNat : Nat) : Int) := by simp [Int.tmod]
  have h0n : ¬ y.toNat = 0 := by omega
  simp only [binOp, Op.intDiv, u8, UInt8.toNat_mod]
  simp [h0n, e]
theorem shl_u64 {x : UInt64} {k : IntKind} {n : Nat} (hn : n < 64) : Bin P .shl T (u64 x) (.int k (n : Int)) (u64 (x <<< UInt64.ofNat n)) := Bin.int fun w => by
  have h : IntKind.u64.wrap ((x.toNat : Int) * 2 ^ n) = ((x <<< UInt64.ofNat n).toNat : Int) := by
    rw [IntKind.wrap_u64, UInt64.toNat_shiftLeft]
    have : (UInt64.ofNat n).toNat % 64 = n := by
      rw [UInt64.toNat_ofNat']; omega
    rw [this, Nat.shiftLeft_eq]
    have : ((2 : Int) ^ n) = ((2 ^ n : Nat) : Int) := by simp
    rw [this]
    have : ((x.toNat : Int) * ((2 ^ n : Nat) : Int)) = ((x.toNat * 2 ^ n : Nat) : Int) := by simp
    rw [this]
    omega
  have hm : min n 64 = n := by omega
  have hneg : ¬ ((n : Int) < 0) := by omega
  simp only [binOp, Op.shift, u64, if_neg hneg, Int.toNat_natCast]
  show Sem.run P (pure _) w = _
  rw [show min n IntKind.u64.bits = n from hm]
  rw [h]; rfl
theorem conv_u32_u64 {s d : TypeId} {x : UInt32} (hs : P.underlying s = some (.int .u32)) (hd : P.underlying d = some (.int .u64)) : Conv1 P s d (u32 x) (u64 x.toUInt64) := fun w => by
  have h := conv_int (k0 := .u32) (n := (x.toNat : Int)) hs hd w
  rw [show IntKind.u64.wrap (x.toNat : Int) = (x.toUInt64.toNat : Int) from by
    have := x.toNat_lt
    rw [wrap_u64n _ (by omega), UInt32.toNat_toUInt64]] at h
  exact h
theorem conv_u8_u64 {s d : TypeId} {x : UInt8} (hs : P.underlying s = some (.int .u8)) (hd : P.underlying d = some (.int .u64)) : Conv1 P s d (u8 x) (u64 x.toUInt64) := fun w => by
  have h := conv_int (k0 := .u8) (n := (x.toNat : Int)) hs hd w
  rw [show IntKind.u64.wrap (x.toNat : Int) = (x.toUInt64.toNat : Int) from by
    have := x.toNat_lt
    rw [wrap_u64n _ (by omega), UInt8.toNat_toUInt64]] at h
  exact h
theorem conv_i64_u32 {s d : TypeId} {n : Nat} (hs : P.underlying s = some (.int .i64)) (hd : P.underlying d = some (.int .u32)) (hn : n < 4294967296) : Conv1 P s d (.int .i64 (n : Int)) (u32 (UInt32.ofNat n)) := fun w => by
  have h := conv_int (k0 := .i64) (n := (n : Int)) hs hd w
  rw [show IntKind.u32.wrap (n : Int) = ((UInt32.ofNat n).toNat : Int) from by
    rw [wrap_u32n _ hn, UInt32.toNat_ofNat']; omega] at h
  exact h
theorem conv_u64_i64 {s d : TypeId} {x : UInt64} (hs : P.underlying s = some (.int .u64)) (hd : P.underlying d = some (.int .i64)) (hx : x.toNat ≤ 9223372036854775807) : Conv1 P s d (u64 x) (.int .i64 (x.toNat : Int)) := fun w => by
  have h := conv_int (k0 := .u64) (n := (x.toNat : Int)) hs hd w
  rw [IntWalk.i64_in _ (by omega)] at h
  exact h
end
section
variable {c : Cx} {σ : Slots} {H : Blocks} {ty : TypeId} {pos : String} {af : Array Edge} {gd : Option (Nat × Bool)} {dst : Option Nat}
theorem Ev.negU64 {T : TypeId} {x : Operand} {n : UInt64} (hx : ev σ x = some (u64 n)) : Ev c σ H ⟨dst, .unOp .neg T x, ty, pos, af, gd⟩ (u64 (0 - n)) := fun A w hf _ => by
  have h : IntKind.u64.wrap (0 - (n.toNat : Int)) = ((0 - n).toNat : Int) := by
    have h2 := n.toNat_lt
    rw [IntKind.wrap_u64, UInt64.toNat_sub]; simp; omega
  simp only [execOp, hf.ev hx, Op.unary, u64, Op.intArith]
  show Result.ok (Next.value (.int .u64 (IntKind.u64.wrap (0 - (n.toNat : Int))))) w = _
  rw [h]
end

/-- A number as so many bytes, the greatest first. -/
def be (n : UInt64) (size : Nat) : List UInt8 := (List.range size).map fun i => (n >>> UInt64.ofNat (8 * (size - 1 - i))).toUInt8
theorem be_length (n : UInt64) (size : Nat) : (be n size).length = size := by simp [be]
theorem be_take_succ (n : UInt64) {size i : Nat} (hi : i < size) : (be n size).take (i + 1) = (be n size).take i ++ [(n >>> UInt64.ofNat (8 * (size - 1 - i))).toUInt8] := by
  rw [List.take_add_one]
  simp [be, hi]
theorem be_succ (n : UInt64) (i : Nat) : be n (i + 1) = (n >>> UInt64.ofNat (8 * i)).toUInt8 :: be n i := by
  unfold be
  rw [List.range_succ_eq_map, List.map_cons, List.map_map]
  congr 1
  apply List.map_congr_left
  intro j hj
  have := List.mem_range.1 hj
  simp only [Function.comp_apply]
  rw [show i + 1 - 1 - (j + 1) = i - 1 - j by omega]

theorem Pick.last {x : Nat × Obj} : ∀ H : Blocks, Pick x (H ++ [x]) H
  | [] => .here
  | _ :: H => .there (Pick.last H)
theorem Sub.drop1 {x : Nat × Obj} {A : Blocks} : Sub A (x :: A) := Sub.dropHead (x := x)
theorem Sub.rot {x y : Nat × Obj} {H : Blocks} : Sub (x :: H) (y :: (H ++ [x])) := .cons (.there (Pick.last H)) Sub.drop1
end Go.Proofs.YtebinlinhmohbaaDoor
