/-
  One law for each operation, over whatever program: what it yields of what its operands' slots hold.
-/
import Derived.Test.YtebinlinhmohbaaDoorReg
import Derived.Lib.AppendZeros
import Derived.Lib.SliceRun
import Derived.Lib.AppendZerosOnto
namespace Go.Proofs.YtebinlinhmohbaaDoor
open Go Go.RowKit

def u8 (x : UInt8) : Value := .int .u8 x.toNat
def u32 (x : UInt32) : Value := .int .u32 x.toNat
def u64 (x : UInt64) : Value := .int .u64 x.toNat
def i64 (x : Int) : Value := .int .i64 x

/-! ### Binary operations -/
def Bin (P : Program) (op : BinOp) (T : TypeId) (a b v : Value) : Prop := ∀ (x y : Operand) (w : World), (do eqGuard op T x y a b; binOp op T a b : Sem Value).run P w = .ok v w

theorem eqGuard_int {P : Program} {op : BinOp} {T : TypeId} {x y : Operand} {k k' : IntKind} {a b : Int} {w : World} : (eqGuard op T x y (.int k a) (.int k' b)).run P w = .ok () w := by
  unfold eqGuard; split <;> simp

theorem Bin.int {P : Program} {op : BinOp} {T : TypeId} {k k' : IntKind} {a b : Int} {v : Value} (h : ∀ w, (binOp op T (.int k a) (.int k' b)).run P w = .ok v w) : Bin P op T (.int k a) (.int k' b) v := fun x y w => by
  simp only [Sem.run_bind, eqGuard_int, Result.andThen_ok, h]

section
variable {P : Program} {T : TypeId}
theorem add_i64 {a b : Int} (h : -9223372036854775808 ≤ a + b ∧ a + b ≤ 9223372036854775807) : Bin P .add T (.int .i64 a) (.int .i64 b) (.int .i64 (a + b)) :=
  Bin.int fun w => by simp [binOp, Op.intArith, IntWalk.i64_in _ h]
theorem sub_i64 {a b : Int} (h : -9223372036854775808 ≤ a - b ∧ a - b ≤ 9223372036854775807) : Bin P .sub T (.int .i64 a) (.int .i64 b) (.int .i64 (a - b)) :=
  Bin.int fun w => by simp [binOp, Op.intArith, IntWalk.i64_in _ h]
theorem mul_i64 {a b : Int} (h : -9223372036854775808 ≤ a * b ∧ a * b ≤ 9223372036854775807) : Bin P .mul T (.int .i64 a) (.int .i64 b) (.int .i64 (a * b)) :=
  Bin.int fun w => by simp [binOp, Op.intArith, IntWalk.i64_in _ h]
theorem quo_i64 {a b : Int} (h : 0 ≤ a ∧ a ≤ 9223372036854775807 ∧ 1 ≤ b) : Bin P .quo T (.int .i64 a) (.int .i64 b) (.int .i64 (a / b)) :=
  Bin.int fun w => by
    have : ¬ b = 0 := by omega
    simp [binOp, Op.intDiv, this, IntWalk.i64_quo _ _ h]
theorem rem_i64 {a b : Int} (h : 0 ≤ a ∧ 1 ≤ b) : Bin P .rem T (.int .i64 a) (.int .i64 b) (.int .i64 (a % b)) :=
  Bin.int fun w => by
    have : ¬ b = 0 := by omega
    simp [binOp, Op.intDiv, this, IntWalk.rem_in _ _ h.1]
theorem lss_int {k : IntKind} {a b : Int} : Bin P .lss T (.int k a) (.int k b) (.bool (decide (a < b))) := Bin.int fun w => by simp [binOp, Op.intCmp]
theorem leq_int {k : IntKind} {a b : Int} : Bin P .leq T (.int k a) (.int k b) (.bool (decide (a ≤ b))) := Bin.int fun w => by simp [binOp, Op.intCmp]
theorem gtr_int {k : IntKind} {a b : Int} : Bin P .gtr T (.int k a) (.int k b) (.bool (decide (b < a))) := Bin.int fun w => by simp [binOp, Op.intCmp]
theorem geq_int {k : IntKind} {a b : Int} : Bin P .geq T (.int k a) (.int k b) (.bool (decide (b ≤ a))) := Bin.int fun w => by simp [binOp, Op.intCmp]
theorem eql_int {k : IntKind} {a b : Int} : Bin P .eql T (.int k a) (.int k b) (.bool (decide (a = b))) := Bin.int fun w => by
  simp only [binOp, Op.intCmp]; simp; rfl
theorem neq_int {k : IntKind} {a b : Int} : Bin P .neq T (.int k a) (.int k b) (.bool (decide (a ≠ b))) := Bin.int fun w => by
  simp only [binOp, Op.intCmp]; simp; rfl

theorem ofInt_u32 (x : UInt32) : BitVec.ofInt IntKind.u32.bits (x.toNat : Int) = x.toBitVec := by
  apply BitVec.eq_of_toNat_eq
  show (BitVec.ofInt 32 (x.toNat : Int)).toNat = x.toNat
  rw [BitVec.toNat_ofInt]
  have := x.toNat_lt
  simp; omega
theorem ofInt_u8 (x : UInt8) : BitVec.ofInt IntKind.u8.bits (x.toNat : Int) = x.toBitVec := by
  apply BitVec.eq_of_toNat_eq
  show (BitVec.ofInt 8 (x.toNat : Int)).toNat = x.toNat
  rw [BitVec.toNat_ofInt]
  have := x.toNat_lt
  simp; omega
theorem ofInt_u64 (x : UInt64) : BitVec.ofInt IntKind.u64.bits (x.toNat : Int) = x.toBitVec := by
  apply BitVec.eq_of_toNat_eq
  show (BitVec.ofInt 64 (x.toNat : Int)).toNat = x.toNat
  rw [BitVec.toNat_ofInt]
  have := x.toNat_lt
  simp; omega
theorem wrap_u32n (n : Nat) (h : n < 4294967296) : IntKind.u32.wrap (n : Int) = n := IntWalk.u32_in _ (by omega)
theorem wrap_u8n (n : Nat) (h : n < 256) : IntKind.u8.wrap (n : Int) = n := IntWalk.u8_in _ (by omega)
theorem wrap_u64n (n : Nat) (h : n < 18446744073709551616) : IntKind.u64.wrap (n : Int) = n := IntWalk.u64_in _ (by omega)

theorem and_u32 {x y : UInt32} : Bin P .and T (u32 x) (u32 y) (u32 (x &&& y)) := Bin.int fun w => by
  simp only [binOp, Op.intBits, ofInt_u32, u32]
  have := (x &&& y).toNat_lt
  exact congrArg (fun n => Result.ok (Value.int IntKind.u32 n) w) (wrap_u32n _ this)
theorem or_u32 {x y : UInt32} : Bin P .or T (u32 x) (u32 y) (u32 (x ||| y)) := Bin.int fun w => by
  simp only [binOp, Op.intBits, ofInt_u32, u32]
  have := (x ||| y).toNat_lt
  exact congrArg (fun n => Result.ok (Value.int IntKind.u32 n) w) (wrap_u32n _ this)
theorem xor_u32 {x y : UInt32} : Bin P .xor T (u32 x) (u32 y) (u32 (x ^^^ y)) := Bin.int fun w => by
  simp only [binOp, Op.intBits, ofInt_u32, u32]
  have := (x ^^^ y).toNat_lt
  exact congrArg (fun n => Result.ok (Value.int IntKind.u32 n) w) (wrap_u32n _ this)
theorem add_u32 {x y : UInt32} : Bin P .add T (u32 x) (u32 y) (u32 (x + y)) := Bin.int fun w => by
  simp only [binOp, Op.intArith, u32]
  have h : IntKind.u32.wrap ((x.toNat : Int) + y.toNat) = ((x + y).toNat : Int) := by
    rw [IntKind.wrap_u32', UInt32.toNat_add]; omega
  simp [h]
theorem shl_u32 {x : UInt32} {k : IntKind} {n : Nat} (hn : n < 32) : Bin P .shl T (u32 x) (.int k (n : Int)) (u32 (x <<< UInt32.ofNat n)) := Bin.int fun w => by
  have h : IntKind.u32.wrap ((x.toNat : Int) * 2 ^ n) = ((x <<< UInt32.ofNat n).toNat : Int) := by
    rw [IntKind.wrap_u32', UInt32.toNat_shiftLeft]
    have : (UInt32.ofNat n).toNat % 32 = n := by
      rw [UInt32.toNat_ofNat']; omega
    rw [this, Nat.shiftLeft_eq]
    have : ((2 : Int) ^ n) = ((2 ^ n : Nat) : Int) := by simp
    rw [this]
    have : ((x.toNat : Int) * ((2 ^ n : Nat) : Int)) = ((x.toNat * 2 ^ n : Nat) : Int) := by simp
    rw [this]
    omega
  have hm : min n 32 = n := by omega
  have hneg : ¬ ((n : Int) < 0) := by omega
  simp only [binOp, Op.shift, u32, if_neg hneg, Int.toNat_natCast]
  show Sem.run P (pure _) w = _
  rw [show min n IntKind.u32.bits = n from hm]
  rw [h]; rfl
theorem shr_u32 {x : UInt32} {k : IntKind} {n : Nat} (hn : n < 32) : Bin P .shr T (u32 x) (.int k (n : Int)) (u32 (x >>> UInt32.ofNat n)) := Bin.int fun w => by
  have h : (x.toNat : Int).fdiv (2 ^ n) = ((x >>> UInt32.ofNat n).toNat : Int) := by
    rw [UInt32.toNat_shiftRight]
    have : (UInt32.ofNat n).toNat % 32 = n := by
      rw [UInt32.toNat_ofNat']; omega
    rw [this, Nat.shiftRight_eq_div_pow]
    have e : ((2 : Int) ^ n) = ((2 ^ n : Nat) : Int) := by simp
    rw [e, Int.fdiv_eq_ediv_of_nonneg _ (Int.natCast_nonneg _)]
    rfl
  have hm : min n 32 = n := by omega
  have hneg : ¬ ((n : Int) < 0) := by omega
  simp only [binOp, Op.shift, u32, if_neg hneg, Int.toNat_natCast]
  show Sem.run P (pure _) w = _
  rw [show min n IntKind.u32.bits = n from hm]
  rw [h]; rfl
theorem shr_u64 {x : UInt64} {k : IntKind} {n : Nat} (hn : n < 64) : Bin P .shr T (u64 x) (.int k (n : Int)) (u64 (x >>> UInt64.ofNat n)) := Bin.int fun w => by
  have h : (x.toNat : Int).fdiv (2 ^ n) = ((x >>> UInt64.ofNat n).toNat : Int) := by
    rw [UInt64.toNat_shiftRight]
    have : (UInt64.ofNat n).toNat % 64 = n := by
      rw [UInt64.toNat_ofNat']; omega
    rw [this, Nat.shiftRight_eq_div_pow]
    have e : ((2 : Int) ^ n) = ((2 ^ n : Nat) : Int) := by simp
    rw [e, Int.fdiv_eq_ediv_of_nonneg _ (Int.natCast_nonneg _)]
    rfl
  have hm : min n 64 = n := by omega
  have hneg : ¬ ((n : Int) < 0) := by omega
  simp only [binOp, Op.shift, u64, if_neg hneg, Int.toNat_natCast]
  show Sem.run P (pure _) w = _
  rw [show min n IntKind.u64.bits = n from hm]
  rw [h]; rfl
theorem mul_u64 {x y : UInt64} : Bin P .mul T (u64 x) (u64 y) (u64 (x * y)) := Bin.int fun w => by
  simp only [binOp, Op.intArith, u64]
  have h : IntKind.u64.wrap ((x.toNat : Int) * y.toNat) = ((x * y).toNat : Int) := by
    rw [IntKind.wrap_u64, UInt64.toNat_mul]
    have : ((x.toNat : Int) * y.toNat) = ((x.toNat * y.toNat : Nat) : Int) := by simp
    rw [this]; omega
  simp [h]
theorem eql_slice_nil {e : TypeId} {oa : Option Addr} {len cap : Nat} (hu : P.underlying T = some (.slice e)) : Bin P .eql T (.slice oa len cap) (.slice none 0 0) (.bool oa.isNone) := fun x y w => by
  have h1 : (eqGuard .eql T x y (.slice oa len cap) (.slice none 0 0)).run P w = .ok () w := by unfold eqGuard; simp
  simp only [Sem.run_bind, h1, Result.andThen_ok]
  exact Lib.run_eql_slice_nil w T e oa len cap 0 0 hu
theorem eql_string {s t : ByteArray} : Bin P .eql T (.string s) (.string t) (.bool (s.toList == t.toList)) := fun x y w => by
  have : (eqGuard .eql T x y (.string s) (.string t)).run P w = .ok () w := by unfold eqGuard; simp
  simp only [Sem.run_bind, this, Result.andThen_ok]
  simp [binOp, Op.stringOp]
end

/-! ### The laws of the operations that leave the world as it is -/
section
variable {c : Cx} {σ : Slots} {H : Blocks} {ty : TypeId} {pos : String} {af : Array Edge} {gd : Option (Nat × Bool)} {dst : Option Nat}

theorem Ev.move {x : Operand} {v : Value} (hx : ev σ x = some v) : Ev c σ H ⟨dst, .move x, ty, pos, af, gd⟩ v := fun a w hf _ => by
  show Result.ok (Next.value (a.eval x)) w = _
  rw [hf.ev hx]
theorem Ev.assign {x : Operand} {v : Value} (hx : ev σ x = some v) : Ev c σ H ⟨dst, .assign x, ty, pos, af, gd⟩ v := fun a w hf _ => by
  show Result.ok (Next.value (a.eval x)) w = _
  rw [hf.ev hx]
theorem Ev.pickT {x y z : Operand} {v : Value} (hx : ev σ x = some (.bool true)) (hy : ev σ y = some v) : Ev c σ H ⟨dst, .pick x y z, ty, pos, af, gd⟩ v := fun a w hf _ => by
  simp [execOp, hf.ev hx, hf.ev hy, asBool]
theorem Ev.pickF {x y z : Operand} {v : Value} (hx : ev σ x = some (.bool false)) (hz : ev σ z = some v) : Ev c σ H ⟨dst, .pick x y z, ty, pos, af, gd⟩ v := fun a w hf _ => by
  simp [execOp, hf.ev hx, hf.ev hz, asBool]
theorem Ev.bin {op : BinOp} {T yT : TypeId} {x y : Operand} {a b v : Value} (hx : ev σ x = some a) (hy : ev σ y = some b) (h : Bin c.P op T a b v) : Ev c σ H ⟨dst, .binOp op T x y yT, ty, pos, af, gd⟩ v := fun A w hf _ => by
  have h1 := h x y w
  have : execOp A.eval ⟨dst, .binOp op T x y yT, ty, pos, af, gd⟩ = (do pure (Next.value (← (do eqGuard op T x y (A.eval x) (A.eval y); binOp op T (A.eval x) (A.eval y) : Sem Value)))) := rfl
  rw [this, hf.ev hx, hf.ev hy]
  simp only [Sem.run_bind, Sem.run_pure] at h1 ⊢
  rw [h1]; rfl
theorem Ev.not {T : TypeId} {x : Operand} {b : Bool} (hx : ev σ x = some (.bool b)) : Ev c σ H ⟨dst, .unOp .not T x, ty, pos, af, gd⟩ (.bool !b) := fun A w hf _ => by
  simp [execOp, hf.ev hx, Op.unary]
theorem Ev.neg64 {T : TypeId} {x : Operand} {n : Int} (hx : ev σ x = some (.int .i64 n)) (h : -9223372036854775807 ≤ n ∧ n ≤ 9223372036854775807) : Ev c σ H ⟨dst, .unOp .neg T x, ty, pos, af, gd⟩ (.int .i64 (-n)) := fun A w hf _ => by
  have : IntKind.i64.wrap (0 - n) = -n := by rw [IntWalk.i64_in _ (by omega)]; omega
  simp only [execOp, hf.ev hx, Op.unary, Op.intArith, this]
  rfl
theorem Ev.com32 {T : TypeId} {x : Operand} {n : UInt32} (hx : ev σ x = some (u32 n)) : Ev c σ H ⟨dst, .unOp .xor T x, ty, pos, af, gd⟩ (u32 (~~~n)) := fun A w hf _ => by
  have hm : BitVec.ofInt IntKind.u32.bits IntKind.u32.max = BitVec.allOnes 32 := by apply BitVec.eq_of_toNat_eq; rfl
  have hl := (~~~n).toNat_lt
  have e : (BitVec.allOnes 32 ^^^ n.toBitVec).toNat = (~~~n).toNat := by rw [BitVec.allOnes_xor]; rfl
  simp only [execOp, hf.ev hx, Op.unary, u32, Op.intBits, IntKind.signed, Bool.false_eq_true, if_false, hm, ofInt_u32]
  show Result.ok (Next.value (.int .u32 (IntKind.u32.wrap ((BitVec.allOnes 32 ^^^ n.toBitVec).toNat : Int)))) w = _
  rw [e, wrap_u32n _ hl]

def Conv1 (P : Program) (s d : TypeId) (a v : Value) : Prop := ∀ w, (convert s d a).run P w = .ok v w
theorem Ev.conv {s d : TypeId} {x : Operand} {a v : Value} (hx : ev σ x = some a) (h : Conv1 c.P s d a v) : Ev c σ H ⟨dst, .convert s d x, ty, pos, af, gd⟩ v := fun A w hf _ => by
  simp [execOp, hf.ev hx, h w]
theorem conv_int {P : Program} {s d : TypeId} {ks k0 k : IntKind} {n : Int} (hs : P.underlying s = some (.int ks)) (hd : P.underlying d = some (.int k)) : Conv1 P s d (.int k0 n) (.int k (k.wrap n)) := fun w => by
  simp [convert, run_underlying hs, run_underlying hd, Conv.intToInt]
theorem conv_u8_u32 {P : Program} {s d : TypeId} {x : UInt8} (hs : P.underlying s = some (.int .u8)) (hd : P.underlying d = some (.int .u32)) : Conv1 P s d (u8 x) (u32 x.toUInt32) := fun w => by
  have h := conv_int (k0 := .u8) (n := (x.toNat : Int)) hs hd w
  rw [show IntKind.u32.wrap (x.toNat : Int) = (x.toUInt32.toNat : Int) from by
    have := x.toNat_lt
    rw [wrap_u32n _ (by omega), UInt8.toNat_toUInt32]] at h
  exact h
theorem conv_u32_u8 {P : Program} {s d : TypeId} {x : UInt32} (hs : P.underlying s = some (.int .u32)) (hd : P.underlying d = some (.int .u8)) : Conv1 P s d (u32 x) (u8 x.toUInt8) := fun w => by
  have h := conv_int (k0 := .u32) (n := (x.toNat : Int)) hs hd w
  rw [show IntKind.u8.wrap (x.toNat : Int) = (x.toUInt8.toNat : Int) from by
    rw [IntKind.wrap_u8', UInt32.toNat_toUInt8]; omega] at h
  exact h
theorem conv_u64_u8 {P : Program} {s d : TypeId} {x : UInt64} (hs : P.underlying s = some (.int .u64)) (hd : P.underlying d = some (.int .u8)) : Conv1 P s d (u64 x) (u8 x.toUInt8) := fun w => by
  have h := conv_int (k0 := .u64) (n := (x.toNat : Int)) hs hd w
  rw [show IntKind.u8.wrap (x.toNat : Int) = (x.toUInt8.toNat : Int) from by
    rw [IntKind.wrap_u8', UInt64.toNat_toUInt8]; omega] at h
  exact h
theorem conv_i64_u64 {P : Program} {s d : TypeId} {n : Nat} (hs : P.underlying s = some (.int .i64)) (hd : P.underlying d = some (.int .u64)) (hn : n < 18446744073709551616) : Conv1 P s d (.int .i64 (n : Int)) (u64 (UInt64.ofNat n)) := fun w => by
  have h := conv_int (k0 := .i64) (n := (n : Int)) hs hd w
  rw [show IntKind.u64.wrap (n : Int) = ((UInt64.ofNat n).toNat : Int) from by
    rw [wrap_u64n _ hn, UInt64.toNat_ofNat']; omega] at h
  exact h
theorem conv_u8_i64 {P : Program} {s d : TypeId} {x : UInt8} (hs : P.underlying s = some (.int .u8)) (hd : P.underlying d = some (.int .i64)) : Conv1 P s d (u8 x) (.int .i64 (x.toNat : Int)) := fun w => by
  have h := conv_int (k0 := .u8) (n := (x.toNat : Int)) hs hd w
  have := x.toNat_lt
  rw [IntWalk.i64_in _ (by omega)] at h
  exact h

theorem Ev.extract {x : Operand} {vs : Array Value} {i : Nat} {v : Value} (hx : ev σ x = some (.tuple vs)) (hi : vs[i]? = some v) : Ev c σ H ⟨dst, .extract x i, ty, pos, af, gd⟩ v := fun A w hf _ => by
  simp [execOp, hf.ev hx, Instr.extract, hi]

theorem Ev.ex0 {x : Operand} {v : Value} {l : List Value} (hx : ev σ x = some (.tuple ⟨v :: l⟩)) : Ev c σ H ⟨dst, .extract x 0, ty, pos, af, gd⟩ v := Ev.extract hx rfl
theorem Ev.ex1 {x : Operand} {v v0 : Value} {l : List Value} (hx : ev σ x = some (.tuple ⟨v0 :: v :: l⟩)) : Ev c σ H ⟨dst, .extract x 1, ty, pos, af, gd⟩ v := Ev.extract hx rfl
theorem Ev.ex2 {x : Operand} {v v0 v1 : Value} {l : List Value} (hx : ev σ x = some (.tuple ⟨v0 :: v1 :: v :: l⟩)) : Ev c σ H ⟨dst, .extract x 2, ty, pos, af, gd⟩ v := Ev.extract hx rfl

/-! memory read -/
def Mem (w : World) (a : Addr) (l : List Value) : Prop := ∀ j v, l[j]? = some v → w.cell? (a.add j) = some v
def Rd (c : Cx) (H : Blocks) (a : Addr) (v : Value) : Prop := ∀ w, Hp c.w0 H w → w.cell? a = some v
def Rds (c : Cx) (H : Blocks) (a : Addr) (l : List Value) : Prop := ∀ w, Hp c.w0 H w → Mem w a l

theorem cell_old {w0 w : World} (h : Hp w0 H w) {a : Addr} {v : Value} (ha : w0.cell? a = some v) : w.cell? a = some v := (h.below.cell (World.block_lt_of_cell? w0 a ha)).trans ha
theorem Mem.old {w0 w : World} {a : Addr} {l : List Value} (h : Hp w0 H w) (hm : Mem w0 a l) : Mem w a l := fun j v hj => cell_old h (hm j v hj)
theorem Rd.old {a : Addr} {v : Value} (h : c.w0.cell? a = some v) : Rd c H a v := fun _ hw => cell_old hw h
theorem Rds.old {a : Addr} {l : List Value} (h : Mem c.w0 a l) : Rds c H a l := fun _ hw => h.old hw
theorem cell_own {w0 w : World} (h : Hp w0 H w) {b : Nat} {cs : Array Value} {t : TypeId} {fr : Nat × Nat} (hb : (b, Obj.cells cs t fr) ∈ H) (j : Nat) : w.cell? ⟨b, j, none⟩ = cs[j]? := by
  simp [World.cell?, h.get hb]
theorem Rd.own {b j : Nat} {cs : Array Value} {t : TypeId} {fr : Nat × Nat} {v : Value} (hb : (b, Obj.cells cs t fr) ∈ H) (h : cs[j]? = some v) : Rd c H ⟨b, j, none⟩ v := fun _ hw => (cell_own hw hb j).trans h
theorem add_lit (b o j : Nat) : (⟨b, o, none⟩ : Addr).add j = ⟨b, o + j, none⟩ := by unfold Addr.add; split <;> simp_all
theorem Mem.own {w0 w : World} (h : Hp w0 H w) {b o : Nat} {cs : Array Value} {t : TypeId} {fr : Nat × Nat} {l : List Value} (hb : (b, Obj.cells cs t fr) ∈ H) (hl : ∀ j v, l[j]? = some v → cs[o + j]? = some v) : Mem w ⟨b, o, none⟩ l := fun j v hj => by
  rw [add_lit]; exact (cell_own h hb _).trans (hl j v hj)
theorem Rds.own {b o : Nat} {cs : Array Value} {t : TypeId} {fr : Nat × Nat} {l : List Value} (hb : (b, Obj.cells cs t fr) ∈ H) (hl : ∀ j v, l[j]? = some v → cs[o + j]? = some v) : Rds c H ⟨b, o, none⟩ l := fun _ hw => Mem.own hw hb hl
theorem Mem.cut {w : World} {a : Addr} {l : List Value} (h : Mem w a l) (k n : Nat) : Mem w (a.add k) ((l.drop k).take n) := fun j v hj => by
  have h1 : l[k + j]? = some v := by
    rw [List.getElem?_take] at hj
    split at hj
    · rw [List.getElem?_drop] at hj; exact hj
    · cases hj
  have h2 := h (k + j) v h1
  have e : (a.add k).add j = a.add (k + j) := by
    unfold Addr.add
    by_cases h0 : k = 0
    · subst h0; simp
    · by_cases h1 : j = 0
      · subst h1; simp
      · have h2 : ¬ k + j = 0 := by omega
        simp [h0, h1, Nat.add_assoc]
  rw [e]; exact h2
theorem Rds.cut {a : Addr} {l : List Value} (h : Rds c H a l) (k n : Nat) : Rds c H (a.add k) ((l.drop k).take n) := fun w hw => (h w hw).cut k n
theorem Rds.at {a : Addr} {l : List Value} (h : Rds c H a l) {k : Nat} {v : Value} (hk : l[k]? = some v) : Rd c H (a.add k) v := fun w hw => h w hw k v hk

theorem Ev.load1 {T : TypeId} {x : Operand} {a : Addr} {v : Value} {d : TypeDesc} (hx : ev σ x = some (.pointer (some a))) (hu : c.P.underlying T = some d)
    (hd : aggB d = false) (hr : Rd c H a v) : Ev c σ H ⟨dst, .load T x, ty, pos, af, gd⟩ v := fun A w hf hw => by
  have e : execOp A.eval ⟨dst, .load T x, ty, pos, af, gd⟩ = (do pure (Next.value (← Instr.loadAt T (A.eval x)))) := rfl
  rw [e, hf.ev hx]
  have h1 : (Instr.loadAt T (.pointer (some a))).run c.P w = .ok v w := by
    simp only [Instr.loadAt, Instr.sureAddr, Sem.run_bind, Sem.run_pure, Result.andThen_ok]
    exact run_loadVar_one hu hd (hr w hw)
  simp only [Sem.run_bind, Sem.run_pure, h1, Result.andThen_ok]
theorem run_loadVar_agg {P : Program} {T : TypeId} {a : Addr} {l : List Value} {d : TypeDesc} {w : World} {k : Nat} (hu : P.underlying T = some d)
    (hd : aggB d = true) (hs : (sizeOf T).run P w = .ok k w) (hk : l.length = k) (hr : Mem w a l) : (loadVar T a).run P w = .ok (.agg l.toArray) w := by
  subst hk
  simp only [loadVar, Sem.run_bind, run_isAgg hu, hd, Result.andThen_ok, if_true, hs, run_loadCells_list w a l hr, Sem.run_pure]
theorem Ev.loadA {T : TypeId} {x : Operand} {a : Addr} {l : List Value} {d : TypeDesc} {k : Nat} (hx : ev σ x = some (.pointer (some a))) (hu : c.P.underlying T = some d)
    (hd : aggB d = true) (hs : ∀ w, (sizeOf T).run c.P w = .ok k w) (hr : Rds c H a l) (hk : l.length = k) : Ev c σ H ⟨dst, .load T x, ty, pos, af, gd⟩ (.agg l.toArray) := fun A w hf hw => by
  have e : execOp A.eval ⟨dst, .load T x, ty, pos, af, gd⟩ = (do pure (Next.value (← Instr.loadAt T (A.eval x)))) := rfl
  rw [e, hf.ev hx]
  have h1 : (Instr.loadAt T (.pointer (some a))).run c.P w = .ok (.agg l.toArray) w := by
    simp only [Instr.loadAt, Instr.sureAddr, Sem.run_bind, Sem.run_pure, Result.andThen_ok]
    exact run_loadVar_agg hu hd (hs w) hk (hr w hw)
  simp only [Sem.run_bind, Sem.run_pure, h1, Result.andThen_ok]

theorem Ev.loadB {T : TypeId} {x : Operand} {b : Nat} {cs : Array Value} {t : TypeId} {fr : Nat × Nat} {d : TypeDesc} {k : Nat} (hx : ev σ x = some (.pointer (some ⟨b, 0, none⟩))) (hb : (b, Obj.cells cs t fr) ∈ H) (hu : c.P.underlying T = some d)
    (hd : aggB d = true) (hs : ∀ w, (sizeOf T).run c.P w = .ok k w) (hk : cs.size = k) : Ev c σ H ⟨dst, .load T x, ty, pos, af, gd⟩ (.agg cs) := by
  have h := Ev.loadA (c := c) (σ := σ) (H := H) (dst := dst) (ty := ty) (pos := pos) (af := af) (gd := gd) (l := cs.toList) hx hu hd hs (Rds.own hb fun j v hj => by simpa using hj) (by simpa using hk)
  simpa using h

theorem Ev.idxS {T e : TypeId} {x y : Operand} {ik : IntKind} {a : Addr} {len cap k : Nat} {i : Int} {s : Nat} (hx : ev σ x = some (.slice (some a) len cap)) (hy : ev σ y = some (.int ik i)) (hu : c.P.underlying T = some (.slice e)) (hs : ∀ w, (sizeOf e).run c.P w = .ok s w)
    (hi : i = (k : Int)) (hk : k < len) : Ev c σ H ⟨dst, .indexAddr T x y, ty, pos, af, gd⟩ (.pointer (some (a.add (k * s)))) := fun A w hf _ => by
  subst hi
  have e : execOp A.eval ⟨dst, .indexAddr T x y, ty, pos, af, gd⟩ = (do pure (Next.value (← Instr.indexAt T (A.eval x) (A.eval y)))) := rfl
  rw [e, hf.ev hx, hf.ev hy]
  simp [Instr.indexAt, asIntOf, run_underlying hu, hs, hk]
theorem Ev.idxA {T e : TypeId} {x y : Operand} {ik : IntKind} {a : Addr} {len k : Nat} {i : Int} {s : Nat} (hx : ev σ x = some (.pointer (some a))) (hy : ev σ y = some (.int ik i)) (hu : c.P.underlying T = some (.array len e)) (hs : ∀ w, (sizeOf e).run c.P w = .ok s w)
    (hi : i = (k : Int)) (hk : k < len) : Ev c σ H ⟨dst, .indexAddr T x y, ty, pos, af, gd⟩ (.pointer (some (a.add (k * s)))) := fun A w hf _ => by
  subst hi
  have e : execOp A.eval ⟨dst, .indexAddr T x y, ty, pos, af, gd⟩ = (do pure (Next.value (← Instr.indexAt T (A.eval x) (A.eval y)))) := rfl
  rw [e, hf.ev hx, hf.ev hy]
  simp [Instr.indexAt, asIntOf, run_underlying hu, hs, hk, Instr.sureAddr]
theorem Ev.idxS1 {T e : TypeId} {x y : Operand} {ik : IntKind} {a : Addr} {len cap k : Nat} {i : Int} (hx : ev σ x = some (.slice (some a) len cap)) (hy : ev σ y = some (.int ik i)) (hu : c.P.underlying T = some (.slice e)) (hs : ∀ w, (sizeOf e).run c.P w = .ok 1 w)
    (hi : i = (k : Int)) (hk : k < len) : Ev c σ H ⟨dst, .indexAddr T x y, ty, pos, af, gd⟩ (.pointer (some (a.add k))) := by
  have h := Ev.idxS (c := c) (σ := σ) (H := H) (ty := ty) (pos := pos) (af := af) (gd := gd) (dst := dst) hx hy hu hs hi hk
  rwa [Nat.mul_one] at h
theorem Ev.idxB1 {T e : TypeId} {x y : Operand} {ik : IntKind} {b : Nat} {len k : Nat} {i : Int} (hx : ev σ x = some (.pointer (some ⟨b, 0, none⟩))) (hy : ev σ y = some (.int ik i)) (hu : c.P.underlying T = some (.array len e)) (hs : ∀ w, (sizeOf e).run c.P w = .ok 1 w)
    (hi : i = (k : Int)) (hk : k < len) : Ev c σ H ⟨dst, .indexAddr T x y, ty, pos, af, gd⟩ (.pointer (some ⟨b, k, none⟩)) := by
  have h := Ev.idxA (c := c) (σ := σ) (H := H) (ty := ty) (pos := pos) (af := af) (gd := gd) (dst := dst) hx hy hu hs hi hk
  rwa [Nat.mul_one, add_lit, Nat.zero_add] at h
/-- 'a[i]' of an array as a value, its elements of one cell. -/
theorem Ev.index1 {T e : TypeId} {x y : Operand} {ik : IntKind} {cs : Array Value} {len k : Nat} {i : Int} {v : Value} {d : TypeDesc} (hx : ev σ x = some (.agg cs)) (hy : ev σ y = some (.int ik i)) (hu : c.P.underlying T = some (.array len e)) (hs : ∀ w, (sizeOf e).run c.P w = .ok 1 w)
    (hue : c.P.underlying e = some d) (hd : aggB d = false) (hi : i = (k : Int)) (hk : k < len) (hv : cs[k]? = some v) : Ev c σ H ⟨dst, .index T x y, ty, pos, af, gd⟩ v := fun A w hf _ => by
  subst hi
  have e : execOp A.eval ⟨dst, .index T x y, ty, pos, af, gd⟩ = (do pure (Next.value (← Instr.index T (A.eval x) (A.eval y)))) := rfl
  rw [e, hf.ev hx, hf.ev hy]
  simp [Instr.index, asIntOf, run_underlying hu, hs, hk, part, run_isAgg hue, hd, hv]

/-! slices -/
def sub3 (a : Option Addr) (l h m s : Nat) : Value := .slice (if m = l then a else a.map (·.add (l * s))) (h - l) (m - l)
theorem run_sliceBound {P : Program} {w : World} {i : Int} {k y : Nat} {code : BoundsCode} (hi : i = (k : Int)) (hk : k ≤ y) : (Instr.sliceBound (.int .i64 i) y code).run P w = .ok k w := by
  subst hi
  have h1 : (0 : Int) ≤ (k : Int) ∧ (k : Int) ≤ (y : Int) := by omega
  simp [Instr.sliceBound, asIntOf, h1]
theorem Ev.sliceLo {T e : TypeId} {x lo : Operand} {a : Option Addr} {len cap l : Nat} {il : Int} {s : Nat} (hx : ev σ x = some (.slice a len cap)) (hl : ev σ lo = some (.int .i64 il)) (hu : c.P.underlying T = some (.slice e)) (hs : ∀ w, (sizeOf e).run c.P w = .ok s w)
    (hil : il = (l : Int)) (h : l ≤ len) : Ev c σ H ⟨dst, .slice T x (some lo) none none, ty, pos, af, gd⟩ (sub3 a l len cap s) := fun A w hf _ => by
  have e : execOp A.eval ⟨dst, .slice T x (some lo) none none, ty, pos, af, gd⟩ = (do pure (Next.value (← Instr.sliceAt T (A.eval x) (some (A.eval lo)) none none))) := rfl
  rw [e, hf.ev hx, hf.ev hl]
  simp [Instr.sliceAt, Instr.slice, run_underlying hu, hs, Instr.sliceBounds, run_sliceBound hil h, sub3]
theorem Ev.sliceHi {T e : TypeId} {x hi : Operand} {a : Option Addr} {len cap h : Nat} {ih : Int} {s : Nat} (hx : ev σ x = some (.slice a len cap)) (hh : ev σ hi = some (.int .i64 ih)) (hu : c.P.underlying T = some (.slice e)) (hs : ∀ w, (sizeOf e).run c.P w = .ok s w)
    (hih : ih = (h : Int)) (h1 : h ≤ cap) : Ev c σ H ⟨dst, .slice T x none (some hi) none, ty, pos, af, gd⟩ (sub3 a 0 h cap s) := fun A w hf _ => by
  have e : execOp A.eval ⟨dst, .slice T x none (some hi) none, ty, pos, af, gd⟩ = (do pure (Next.value (← Instr.sliceAt T (A.eval x) none (some (A.eval hi)) none))) := rfl
  rw [e, hf.ev hx, hf.ev hh]
  simp [Instr.sliceAt, Instr.slice, run_underlying hu, hs, Instr.sliceBounds, run_sliceBound hih h1, sub3]
theorem Ev.sliceLH {T e : TypeId} {x lo hi : Operand} {a : Option Addr} {len cap l h : Nat} {il ih : Int} {s : Nat} (hx : ev σ x = some (.slice a len cap)) (hl : ev σ lo = some (.int .i64 il)) (hh : ev σ hi = some (.int .i64 ih)) (hu : c.P.underlying T = some (.slice e)) (hs : ∀ w, (sizeOf e).run c.P w = .ok s w)
    (hil : il = (l : Int)) (hih : ih = (h : Int)) (h2 : l ≤ h) (h1 : h ≤ cap) : Ev c σ H ⟨dst, .slice T x (some lo) (some hi) none, ty, pos, af, gd⟩ (sub3 a l h cap s) := fun A w hf _ => by
  have e : execOp A.eval ⟨dst, .slice T x (some lo) (some hi) none, ty, pos, af, gd⟩ = (do pure (Next.value (← Instr.sliceAt T (A.eval x) (some (A.eval lo)) (some (A.eval hi)) none))) := rfl
  rw [e, hf.ev hx, hf.ev hl, hf.ev hh]
  simp [Instr.sliceAt, Instr.slice, run_underlying hu, hs, Instr.sliceBounds, run_sliceBound hil h2, run_sliceBound hih h1, sub3]
theorem Ev.sliceLHM {T e : TypeId} {x lo hi mx : Operand} {a : Option Addr} {len cap l h m : Nat} {il ih im : Int} {s : Nat} (hx : ev σ x = some (.slice a len cap)) (hl : ev σ lo = some (.int .i64 il)) (hh : ev σ hi = some (.int .i64 ih)) (hm : ev σ mx = some (.int .i64 im)) (hu : c.P.underlying T = some (.slice e)) (hs : ∀ w, (sizeOf e).run c.P w = .ok s w)
    (hil : il = (l : Int)) (hih : ih = (h : Int)) (him : im = (m : Int)) (h3 : l ≤ h) (h2 : h ≤ m) (h1 : m ≤ cap) : Ev c σ H ⟨dst, .slice T x (some lo) (some hi) (some mx), ty, pos, af, gd⟩ (sub3 a l h m s) := fun A w hf _ => by
  have e : execOp A.eval ⟨dst, .slice T x (some lo) (some hi) (some mx), ty, pos, af, gd⟩ = (do pure (Next.value (← Instr.sliceAt T (A.eval x) (some (A.eval lo)) (some (A.eval hi)) (some (A.eval mx))))) := rfl
  rw [e, hf.ev hx, hf.ev hl, hf.ev hh, hf.ev hm]
  simp [Instr.sliceAt, Instr.slice, run_underlying hu, hs, Instr.sliceBounds, run_sliceBound hil h3, run_sliceBound hih h2, run_sliceBound him h1, sub3]
/-- Of an array behind a pointer. -/
theorem Ev.sliceA {T e : TypeId} {x : Operand} {a : Addr} {n : Nat} {s : Nat} (hx : ev σ x = some (.pointer (some a))) (hu : c.P.underlying T = some (.array n e)) (hs : ∀ w, (sizeOf e).run c.P w = .ok s w) :
    Ev c σ H ⟨dst, .slice T x none none none, ty, pos, af, gd⟩ (.slice (some a) n n) := fun A w hf _ => by
  have e : execOp A.eval ⟨dst, .slice T x none none none, ty, pos, af, gd⟩ = (do pure (Next.value (← Instr.sliceAt T (A.eval x) none none none))) := rfl
  rw [e, hf.ev hx]
  have : a.add 0 = a := by simp [Addr.add]
  simp [Instr.sliceAt, run_underlying hu, hs, Instr.sliceBounds, Instr.sureAddr, this]
theorem Ev.sliceALo {T e : TypeId} {x lo : Operand} {a : Addr} {n l : Nat} {il : Int} {s : Nat} (hx : ev σ x = some (.pointer (some a))) (hl : ev σ lo = some (.int .i64 il)) (hu : c.P.underlying T = some (.array n e)) (hs : ∀ w, (sizeOf e).run c.P w = .ok s w) (hil : il = (l : Int)) (h : l < n) :
    Ev c σ H ⟨dst, .slice T x (some lo) none none, ty, pos, af, gd⟩ (.slice (some (a.add (l * s))) (n - l) (n - l)) := fun A w hf _ => by
  have e : execOp A.eval ⟨dst, .slice T x (some lo) none none, ty, pos, af, gd⟩ = (do pure (Next.value (← Instr.sliceAt T (A.eval x) (some (A.eval lo)) none none))) := rfl
  rw [e, hf.ev hx, hf.ev hl]
  have hne : ¬ n = l := by omega
  simp [Instr.sliceAt, run_underlying hu, hs, Instr.sliceBounds, Instr.sureAddr, run_sliceBound hil (Nat.le_of_lt h), hne]
theorem Ev.sliceAHi {T e : TypeId} {x hi : Operand} {a : Addr} {n h : Nat} {ih : Int} {s : Nat} (hx : ev σ x = some (.pointer (some a))) (hh : ev σ hi = some (.int .i64 ih)) (hu : c.P.underlying T = some (.array n e)) (hs : ∀ w, (sizeOf e).run c.P w = .ok s w) (hih : ih = (h : Int)) (h1 : h ≤ n) :
    Ev c σ H ⟨dst, .slice T x none (some hi) none, ty, pos, af, gd⟩ (.slice (some a) h n) := fun A w hf _ => by
  have e : execOp A.eval ⟨dst, .slice T x none (some hi) none, ty, pos, af, gd⟩ = (do pure (Next.value (← Instr.sliceAt T (A.eval x) none (some (A.eval hi)) none))) := rfl
  rw [e, hf.ev hx, hf.ev hh]
  have : a.add 0 = a := by simp [Addr.add]
  simp [Instr.sliceAt, run_underlying hu, hs, Instr.sliceBounds, Instr.sureAddr, run_sliceBound hih h1, this]

theorem sub3_some {a : Addr} {l h m : Nat} (hm : m ≠ l) : sub3 (some a) l h m 1 = .slice (some (a.add l)) (h - l) (m - l) := by
  simp [sub3, hm]

/-! builtins that only look -/
theorem Ev.lenS {x : Operand} {T e : TypeId} {a : Option Addr} {len cap : Nat} (hx : ev σ x = some (.slice a len cap)) (hu : c.P.underlying T = some (.slice e)) :
    Ev c σ H ⟨dst, .call { callee := .builtin .len, args := #[x], argTypes := #[T] }, ty, pos, af, gd⟩ (.int .i64 (len : Int)) := fun A w hf _ => by
  rw [BigFrame.execOp_builtin, BigFrame.builtin_len]
  simp [hf.ev hx, Builtin.len_, run_underlying hu, goInt]
theorem Ev.capS {x : Operand} {T e : TypeId} {a : Option Addr} {len cap : Nat} (hx : ev σ x = some (.slice a len cap)) (hu : c.P.underlying T = some (.slice e)) :
    Ev c σ H ⟨dst, .call { callee := .builtin .cap, args := #[x], argTypes := #[T] }, ty, pos, af, gd⟩ (.int .i64 (cap : Int)) := fun A w hf _ => by
  rw [BigFrame.execOp_builtin, BigFrame.builtin_cap]
  simp [hf.ev hx, Builtin.cap_, run_underlying hu, goInt]
theorem Ev.min2 {x y : Operand} {ts : Array TypeId} {k : IntKind} {a b : Int} (hx : ev σ x = some (.int k a)) (hy : ev σ y = some (.int k b)) :
    Ev c σ H ⟨dst, .call { callee := .builtin .min, args := #[x, y], argTypes := ts }, ty, pos, af, gd⟩ (.int k (if b < a then b else a)) := fun A w hf _ => by
  rw [BigFrame.execOp_builtin, BigFrame.builtin_min]
  simp [hf.ev hx, hf.ev hy, Builtin.min_, Builtin.min2]

theorem Ev.makeFunc {f : FuncId} {xs : List Operand} {vs : List Value} (hx : evs σ xs = some vs) : Ev c σ H ⟨dst, .makeFunc (.func f) #[] xs.toArray, ty, pos, af, gd⟩ (.func (.func f) #[] vs.toArray) := fun A w hf _ => by
  have e : execOp A.eval ⟨dst, .makeFunc (.func f) #[] xs.toArray, ty, pos, af, gd⟩ = (do pure (Next.value (← Instr.makeFunc (.func f) (#[].map A.eval) (xs.toArray.map A.eval)))) := rfl
  rw [e]
  have := hf.evs hx
  simp [Instr.makeFunc, this]

/-- An array or a struct from all its parts, or some of them. -/
theorem Ev.build {T : TypeId} {parts : List (Nat × Operand)} {vs : List (Nat × Value)} {cs : Array Value}
    (hx : ∀ a, Fr c.n c.ds σ a → parts.map (fun p => (p.1, a.eval p.2)) = vs) (h : ∀ w, (Instr.build T vs.toArray).run c.P w = .ok (.agg cs) w) : Ev c σ H ⟨dst, .build T parts.toArray, ty, pos, af, gd⟩ (.agg cs) := fun A w hf _ => by
  have e : execOp A.eval ⟨dst, .build T parts.toArray, ty, pos, af, gd⟩ = (do pure (Next.value (← Instr.build T (parts.toArray.map fun (i, x) => (i, A.eval x))))) := rfl
  rw [e]
  have h1 := hx A hf
  have h2 : (parts.toArray.map fun (i, x) => (i, A.eval x)) = vs.toArray := by rw [← h1]; simp
  rw [h2]
  simp [h w]

/-! ### New blocks -/
theorem En.alloc {T : TypeId} {z : Value} (hz : ∀ w, (zeroValue T).run c.P w = .ok z w) : En c σ H ⟨dst, .alloc T, ty, pos, af, gd⟩ (fun b => .pointer (some ⟨b, 0, none⟩)) (.cells z.cells T (0, 0)) := fun A w _ _ => by
  have e : execOp A.eval ⟨dst, .alloc T, ty, pos, af, gd⟩ = (do pure (Next.value (← Instr.alloc T true (.tuple #[])))) := rfl
  rw [e]
  simp [Instr.alloc, hz w, newVar, newRow]
theorem En.box {T : TypeId} {x : Operand} {v : Value} (hx : ev σ x = some v) : En c σ H ⟨dst, .box T x, ty, pos, af, gd⟩ (fun b => .pointer (some ⟨b, 0, none⟩)) (.cells v.cells T (0, 0)) := fun A w hf _ => by
  have e : execOp A.eval ⟨dst, .box T x, ty, pos, af, gd⟩ = (do pure (Next.value (← Instr.box T (A.eval x)))) := rfl
  rw [e, hf.ev hx]
  simp [Instr.box, newVar, newRow]
theorem En.allocZ {T : TypeId} {z : Value} {cs : Array Value} (hz : ∀ w, (zeroValue T).run c.P w = .ok z w) (hc : z.cells = cs) : En c σ H ⟨dst, .alloc T, ty, pos, af, gd⟩ (fun b => .pointer (some ⟨b, 0, none⟩)) (.cells cs T (0, 0)) := hc ▸ En.alloc hz
theorem En.boxA {T : TypeId} {x : Operand} {cs : Array Value} (hx : ev σ x = some (.agg cs)) : En c σ H ⟨dst, .box T x, ty, pos, af, gd⟩ (fun b => .pointer (some ⟨b, 0, none⟩)) (.cells cs T (0, 0)) := En.box hx
theorem En.box1 {T : TypeId} {x : Operand} {v : Value} (hx : ev σ x = some v) (hc : v.cells = #[v]) : En c σ H ⟨dst, .box T x, ty, pos, af, gd⟩ (fun b => .pointer (some ⟨b, 0, none⟩)) (.cells #[v] T (0, 0)) := hc ▸ En.box hx
theorem En.buildSlice {T e : TypeId} {n : Nat} {parts : List (Nat × Operand)} {vs : List (Nat × Value)} {cs : Array Value} (hx : ∀ a, Fr c.n c.ds σ a → parts.map (fun p => (p.1, a.eval p.2)) = vs)
    (h : ∀ w, (Instr.buildSlice T n vs.toArray).run c.P w = .ok (.slice (some ⟨w.heap.size, 0, none⟩) n n) (w.alloc (.cells cs e (0, 0)))) : En c σ H ⟨dst, .buildSlice T n parts.toArray, ty, pos, af, gd⟩ (fun b => .slice (some ⟨b, 0, none⟩) n n) (.cells cs e (0, 0)) := fun A w hf _ => by
  have e : execOp A.eval ⟨dst, .buildSlice T n parts.toArray, ty, pos, af, gd⟩ = (do pure (Next.value (← Instr.buildSlice T n (parts.toArray.map fun (i, x) => (i, A.eval x))))) := rfl
  rw [e]
  have h1 := hx A hf
  have h2 : (parts.toArray.map fun (i, x) => (i, A.eval x)) = vs.toArray := by rw [← h1]; simp
  rw [h2]
  simp [h w]

theorem parts_zip : ∀ (parts : List (Nat × Operand)) (f : Operand → Value), parts.map (fun p => (p.1, f p.2)) = (parts.map (·.1)).zip ((parts.map (·.2)).map f)
  | [], _ => rfl
  | p :: parts, f => by simp [parts_zip parts f]
/-- All elements written out, each of one cell. -/
theorem Ev.buN {T : TypeId} {parts : List (Nat × Operand)} {vs : List Value} (hx : evs σ (parts.map (·.2)) = some vs)
    (h : ∀ w, (Instr.build T ((parts.map (·.1)).zip vs).toArray).run c.P w = .ok (.agg vs.toArray) w) : Ev c σ H ⟨dst, .build T parts.toArray, ty, pos, af, gd⟩ (.agg vs.toArray) := by
  have := @Ev.build c σ H ty pos af gd dst T parts ((parts.map (·.1)).zip vs) vs.toArray
  refine this ?_ ?_
  · intro a hf; rw [parts_zip, hf.evs hx]
  · intro w; exact h w
theorem Ev.bu0 {T e : TypeId} {n s : Nat} {z : Value} (hu : c.P.underlying T = some (.array n e)) (hs : ∀ w, (sizeOf e).run c.P w = .ok s w) (hz : ∀ w, (zeroValue T).run c.P w = .ok z w) : Ev c σ H ⟨dst, .build T #[], ty, pos, af, gd⟩ (.agg z.cells) :=
  Ev.build (parts := []) (vs := []) (fun _ _ => rfl) fun w => by
    simp [Instr.build, hz w, run_underlying hu, hs w, Instr.fill]
theorem En.bsN {T e : TypeId} {n : Nat} {parts : List (Nat × Operand)} {vs : List Value} (hx : evs σ (parts.map (·.2)) = some vs)
    (h : ∀ w, (Instr.buildSlice T n ((parts.map (·.1)).zip vs).toArray).run c.P w = .ok (.slice (some ⟨w.heap.size, 0, none⟩) n n) (w.alloc (.cells vs.toArray e (0, 0)))) : En c σ H ⟨dst, .buildSlice T n parts.toArray, ty, pos, af, gd⟩ (fun b => .slice (some ⟨b, 0, none⟩) n n) (.cells vs.toArray e (0, 0)) := by
  have := @En.buildSlice c σ H ty pos af gd dst T e n parts ((parts.map (·.1)).zip vs) vs.toArray
  refine this ?_ ?_
  · intro a hf; rw [parts_zip, hf.evs hx]
  · intro w; exact h w

/-! ### Stores -/
theorem setRow_put {w : World} {b : Nat} {cs cs' : Array Value} {t : TypeId} {fr : Nat × Nat} (hb : w.heap[b]? = some (.cells cs t fr)) : w.setRow b cs' = { w with heap := w.heap.setIfInBounds b (.cells cs' t fr) } := by
  have hlt := (Array.getElem?_eq_some_iff.1 hb).1
  simp only [World.setRow]
  congr 1
  apply Array.ext_getElem?
  intro i
  by_cases e : b = i
  · subst e; rw [Array.getElem?_modify, if_pos rfl, hb]; simp [hlt]
  · simp [Array.getElem?_modify, e]

theorem Hp.setRow {w0 w : World} {H H' : Blocks} {b : Nat} {cs cs' : Array Value} {t : TypeId} {fr : Nat × Nat} (h : Hp w0 H w) (hu : Upd b (.cells cs t fr) (.cells cs' t fr) H H') : Hp w0 H' (w.setRow b cs') :=
  h.upd hu (setRow_put (h.get hu.mem))

/-- The cells 'vs' written from 'o' on. -/
def over (cs : Array Value) (o : Nat) (vs : List Value) : Array Value := (cs.toList.take o ++ vs ++ cs.toList.drop (o + vs.length)).toArray

theorem run_storeVar {P : Program} {w w0 : World} {T t : TypeId} {b o k : Nat} {v : Value} {cs : Array Value} {H : Blocks} (hw : Hp w0 H w) (hb : (b, Obj.cells cs t (0, 0)) ∈ H) (hs : (sizeOf T).run P w = .ok k w) (hv : v.cells.size = k) (ho : o + k ≤ cs.size)
    (h1 : ∀ u ∈ v.cells.toList, u.oneCell' = true) : (storeVar T ⟨b, o, none⟩ v).run P w = .ok () (w.setRow b (over cs o v.cells.toList)) := by
  simp only [storeVar, Sem.run_bind, hs, Result.andThen_ok]
  rw [if_neg (by simp [hv])]
  have := run_storeCells_at P b o t v.cells.toList 0 cs w (hw.get hb) (by simp [hv]; omega) h1
  simpa [over] using this

theorem Es.store {T t : TypeId} {x y : Operand} {v : Value} {b o k : Nat} {cs : Array Value} {H' : Blocks} (hx : ev σ x = some (.pointer (some ⟨b, o, none⟩))) (hy : ev σ y = some v) (hs : ∀ w, (sizeOf T).run c.P w = .ok k w)
    (hu : Upd b (.cells cs t (0, 0)) (.cells (over cs o v.cells.toList) t (0, 0)) H H') (hv : v.cells.size = k) (ho : o + k ≤ cs.size) (h1 : ∀ u ∈ v.cells.toList, u.oneCell' = true) :
    Es c σ H ⟨dst, .store T x y, ty, pos, af, gd⟩ H' := fun A w hf hw => by
  have e : execOp A.eval ⟨dst, .store T x y, ty, pos, af, gd⟩ = (do Instr.storeAt T (A.eval x) (A.eval y); pure Next.skip) := rfl
  refine ⟨w.setRow b (over cs o v.cells.toList), ?_, hw.setRow hu⟩
  rw [e, hf.ev hx, hf.ev hy]
  have h2 := run_storeVar (P := c.P) (T := T) (o := o) (v := v) hw hu.mem (hs w) hv ho h1
  simp only [Instr.storeAt, Instr.sureAddr, Sem.run_bind, Sem.run_pure, Result.andThen_ok, h2]

/-- A whole variable written over. -/
theorem over_all {cs : Array Value} {vs : List Value} (h : vs.length = cs.size) : over cs 0 vs = vs.toArray := by
  have : List.drop vs.length cs.toList = [] := List.drop_of_length_le (by simp [h])
  simp [over, this]
theorem over_one {cs : Array Value} {o : Nat} {v : Value} (h : o < cs.size) : over cs o [v] = cs.setIfInBounds o v := by
  apply Array.toList_inj.1
  have hl : o < cs.toList.length := by simpa using h
  simp only [over, Array.toList_setIfInBounds, List.length_singleton]
  rw [List.set_eq_take_append_cons_drop, if_pos hl]
  simp

theorem Es.storeA {T t : TypeId} {x y : Operand} {vs cs : Array Value} {b k : Nat} {H' : Blocks} (hx : ev σ x = some (.pointer (some ⟨b, 0, none⟩))) (hy : ev σ y = some (.agg vs)) (hs : ∀ w, (sizeOf T).run c.P w = .ok k w)
    (hu : Upd b (.cells cs t (0, 0)) (.cells vs t (0, 0)) H H') (hv : vs.size = k) (hc : cs.size = k) (h1 : ∀ u ∈ vs.toList, u.oneCell' = true) :
    Es c σ H ⟨dst, .store T x y, ty, pos, af, gd⟩ H' := by
  refine Es.store (v := .agg vs) (cs := cs) (t := t) hx hy hs ?_ hv (by omega) h1
  rw [show over cs 0 (Value.agg vs).cells.toList = vs from by
    rw [over_all (by simp [Value.cells]; omega)]; simp [Value.cells]]
  exact hu
theorem Es.store1 {T t : TypeId} {x y : Operand} {v : Value} {cs : Array Value} {b o : Nat} {H' : Blocks} (hx : ev σ x = some (.pointer (some ⟨b, o, none⟩))) (hy : ev σ y = some v) (hs : ∀ w, (sizeOf T).run c.P w = .ok 1 w)
    (hv : v.cells = #[v]) (h1 : v.oneCell' = true) (hu : Upd b (.cells cs t (0, 0)) (.cells (cs.setIfInBounds o v) t (0, 0)) H H') (ho : o < cs.size) :
    Es c σ H ⟨dst, .store T x y, ty, pos, af, gd⟩ H' := by
  refine Es.store (v := v) (cs := cs) (t := t) hx hy hs ?_ (by simp [hv]) (by omega) (by simp [hv, h1])
  rw [hv]
  rw [over_one ho]
  exact hu

/-! ### append, on a slice that is nil or the call's own -/
structure Row where
  g : Nat
  cap : Nat
  cs : Array Value
def Row.v (n : Nat) : Option Row → Value
  | none => .slice none 0 0
  | some r => .slice (some ⟨r.g, 0, none⟩) n r.cap
def Row.b (e : TypeId) : Option Row → Blocks
  | none => []
  | some r => [(r.g, .cells r.cs e (0, 0))]
def Row.ok (s n : Nat) (xs : List Value) : Option Row → Prop
  | none => n = 0 ∧ xs = []
  | some r => xs.length = n * s ∧ n ≤ r.cap ∧ r.cap ≤ maxLen ∧ r.cs.size = r.cap * s ∧ r.cs.toList.take (n * s) = xs

/-- The segment A taken out of H leaves H0. -/
inductive Cut (A : Blocks) : Blocks → Blocks → Prop
  | here {H0 : Blocks} : Cut A (A ++ H0) H0
  | last : Cut A A []
  | there {x : Nat × Obj} {H H0 : Blocks} (h : Cut A H H0) : Cut A (x :: H) (x :: H0)
  | past {B H H0 : Blocks} (h : Cut A H H0) : Cut A (B ++ H) (B ++ H0)

theorem Cut.perm {A H H0 : Blocks} (h : Cut A H H0) : H.Perm (H0 ++ A) := by
  induction h with
  | here => exact List.perm_append_comm
  | last => simp
  | there _ ih => exact ih.cons _
  | past _ ih => rw [List.append_assoc]; exact ih.append_left _

theorem append_row {P : Program} {w0 w : World} {H0 : Blocks} {t ty e : TypeId} {s bytes : Nat} {z : Value} {r : Option Row} {n m c : Nat} {xs news : List Value} {oa : Option Addr}
    (ht : P.underlying t = some (.slice e)) (hi : (P.info? e).map (fun i => (i.zero, i.size, i.bytes)) = some (some z, s, bytes)) (hzs : z.cells.size = s) (hs0 : 0 < s)
    (hr : Row.ok s n xs r) (hw : Hp w0 (H0 ++ Row.b e r) w) (hl : news.length = m * s) (hm : ∀ a, oa = some a → Mem w a news) (hoa : oa = none → m = 0) (h1 : ∀ u ∈ news, u.oneCell' = true)
    (hb : (n + m) * bytes ≤ 140737488355328) (hb1 : 0 < bytes) :
    ∃ r' w', (Builtin.append_ #[t, t] ty #[Row.v n r, .slice oa m c]).run P w = .ok (Row.v (n + m) r') w' ∧ Hp w0 (H0 ++ Row.b e r') w' ∧ Row.ok s (n + m) (xs ++ news) r' ∧ (r' = none ↔ r = none ∧ m = 0) := by
  obtain ⟨i, hi', hz, hsize, hby⟩ := info_parts hi
  have hnm : n + m ≤ 140737488355328 := Nat.le_trans (Nat.le_mul_of_pos_right _ hb1) hb
  subst hsize
  subst hby
  cases oa with
  | none =>
    obtain rfl := hoa rfl
    have hn : news = [] := List.eq_nil_of_length_eq_zero (by simpa using hl)
    subst hn
    refine ⟨r, w, ?_, hw, by simpa using hr, by simp⟩
    cases r with
    | none => simp [Row.v, Builtin.append_, run_underlying ht, sizeOf, typeInfo, hi', Builtin.lenOf, Builtin.firstCells]
    | some r =>
      obtain ⟨_, h2, _⟩ := hr
      have hst : (storeCells (Addr.add ⟨r.g, 0, none⟩ (n * i.size)) []).run P w = .ok () w := rfl
      simp [Row.v, Builtin.append_, run_underlying ht, sizeOf, typeInfo, hi', Builtin.lenOf, Builtin.firstCells, h2, hst]
  | some a =>
    have hm := hm a rfl
    cases r with
    | none =>
      obtain ⟨rfl, rfl⟩ := hr
      by_cases hm0 : m = 0
      · subst hm0
        have hn : news = [] := List.eq_nil_of_length_eq_zero (by simpa using hl)
        subst hn
        refine ⟨none, w, ?_, hw, by simp [Row.ok], by simp⟩
        simp [Row.v, Builtin.append_, run_underlying ht, sizeOf, typeInfo, hi', Builtin.lenOf, Builtin.firstCells, loadCells, loadCellsFrom]
      · have hrun := run_append_nil (P := P) w t ty e i z ht hi' hz a m c news hl hm (by omega) (by omega) (by have hb := hb; simp only [Nat.zero_add] at hb; omega)
        have hge := grownCap_ge w m 0 e
        refine ⟨some ⟨w.heap.size, grownCap w m 0 e, news.toArray ++ Builtin.zeroCells z.cells (grownCap w m 0 e - m)⟩, _, by simpa [Row.v] using hrun, ?_, ?_, by simp [hm0]⟩
        · have h3 := (hw.drew).alloc (.cells (news.toArray ++ Builtin.zeroCells z.cells (grownCap w m 0 e - m)) e (0, 0))
          exact h3.perm (by simp only [Row.b, List.append_nil]; exact List.perm_append_comm (l₁ := [_]))
        · refine ⟨by simpa using hl, by simpa using hge, grownCap_le_maxLen w _ 0 e (by unfold maxLen; omega), ?_, ?_⟩
          · simp only [Array.size_append, List.size_toArray, size_zeroCells, hzs, hl, ← Nat.add_mul]
            congr 1; omega
          · simp only [Array.toList_append, Nat.zero_add, List.nil_append, ← hl]
            exact List.take_left
    | some r =>
      obtain ⟨hxl, hnc, hcm, hcs, htake⟩ := hr
      have hmem : (r.g, Obj.cells r.cs e (0, 0)) ∈ H0 ++ Row.b e (some r) := by simp [Row.b]
      have hg := hw.get hmem
      by_cases hroom : n + m ≤ r.cap
      · have hfit : n * i.size + news.length ≤ r.cs.size := by rw [hl, hcs, ← Nat.add_mul]; exact Nat.mul_le_mul_right _ hroom
        have hrun := run_append_room (P := P) w t ty e i ht hi' r.g n r.cap r.cs hg a m c news hl hm h1 hroom hfit
        refine ⟨some ⟨r.g, r.cap, (r.cs.toList.take (n * i.size) ++ news ++ r.cs.toList.drop (n * i.size + news.length)).toArray⟩, _, hrun, hw.setRow (b := r.g) (cs := r.cs) (t := e) (fr := (0, 0)) ?_, ⟨by simp [hxl, hl, Nat.add_mul], hroom, hcm, ?_, ?_⟩, by simp⟩
        · have : ∀ (A : Blocks), Upd r.g (.cells r.cs e (0, 0)) (.cells (r.cs.toList.take (n * i.size) ++ news ++ r.cs.toList.drop (n * i.size + news.length)).toArray e (0, 0)) (A ++ [(r.g, .cells r.cs e (0, 0))]) (A ++ [(r.g, .cells (r.cs.toList.take (n * i.size) ++ news ++ r.cs.toList.drop (n * i.size + news.length)).toArray e (0, 0))]) := by
            intro A
            induction A with
            | nil => exact .here
            | cons x A ih => exact .there ih
          exact this H0
        · simp only [List.size_toArray, List.length_append, List.length_take, List.length_drop, Array.length_toList]
          omega
        · simp only
          rw [htake, show (n + m) * i.size = (xs ++ news).length from by simp [hxl, hl, Nat.add_mul]]
          exact List.take_left
      · have holds : ∀ j u, xs[j]? = some u → w.cell? ((⟨r.g, 0, none⟩ : Addr).add j) = some u := fun j u hj => by
          rw [add_lit]
          refine (cell_own hw hmem _).trans ?_
          rw [← htake, List.getElem?_take] at hj
          split at hj
          · simpa using hj
          · cases hj
        have hrun := run_append_grow (P := P) w t ty e i z ht hi' hz ⟨r.g, 0, none⟩ n r.cap xs hxl holds a m c news hl hm (by omega) (by omega) (growslice_fits (by omega) hb)
        have hge := grownCap_ge w (n + m) r.cap e
        refine ⟨some ⟨w.heap.size, grownCap w (n + m) r.cap e, xs.toArray ++ news.toArray ++ Builtin.zeroCells z.cells (grownCap w (n + m) r.cap e - (n + m))⟩, _, hrun, ?_, ⟨by simp [hxl, hl, Nat.add_mul], hge, grownCap_le_maxLen w _ _ e (by unfold maxLen; omega), ?_, ?_⟩, by simp⟩
        · have h3 := (hw.drew).alloc (.cells (xs.toArray ++ news.toArray ++ Builtin.zeroCells z.cells (grownCap w (n + m) r.cap e - (n + m))) e (0, 0))
          refine ⟨h3.below, fun x hx => h3.blk x ?_, ?_, h3.mono⟩
          · simp only [Row.b, List.mem_append, List.mem_singleton] at hx
            rcases hx with hx | hx
            · simp [hx]
            · subst hx; simp
          · have h4 := h3.apart
            simp only [List.pairwise_cons, List.pairwise_append, List.mem_append] at h4
            simp only [Row.b, List.pairwise_append]
            refine ⟨h4.2.1, List.pairwise_singleton _ _, fun x hx y hy => ?_⟩
            simp only [List.mem_singleton] at hy
            subst hy
            exact fun e => h4.1 x (.inl hx) e.symm
        · simp only [Array.size_append, List.size_toArray, size_zeroCells, hzs, hxl, hl, ← Nat.add_mul]
          congr 1; omega
        · simp only [Array.toList_append, List.append_assoc]
          rw [← List.append_assoc, show (n + m) * i.size = (xs ++ news).length from by simp [hxl, hl, Nat.add_mul]]
          exact List.take_left

/-- 'append(s, x...)'. -/
theorem Eg.append {x y : Operand} {t e : TypeId} {s bytes n m cp : Nat} {z : Value} {r : Option Row} {xs news : List Value} {oa : Option Addr} {H0 : Blocks} {v : Value}
    (hx : ev σ x = some v) (hv : v = Row.v n r) (hy : ev σ y = some (.slice oa m cp)) (hcut : Cut (Row.b e r) H H0)
    (ht : c.P.underlying t = some (.slice e)) (hi : (c.P.info? e).map (fun i => (i.zero, i.size, i.bytes)) = some (some z, s, bytes)) (hzs : z.cells.size = s) (hs0 : 0 < s) (hb1 : 0 < bytes)
    (hr : Row.ok s n xs r) (hl : news.length = m * s) (hm : ∀ a, oa = some a → Rds c H a news) (hoa : oa = none → m = 0) (h1 : ∀ u ∈ news, u.oneCell' = true)
    (hb : (n + m) * bytes ≤ 140737488355328) :
    Eg c σ H ⟨dst, .call { callee := .builtin .append, args := #[x, y], argTypes := #[t, t] }, ty, pos, af, gd⟩
      (fun v H' => ∃ r', v = Row.v (n + m) r' ∧ H' = H0 ++ Row.b e r' ∧ Row.ok s (n + m) (xs ++ news) r' ∧ (r' = none ↔ r = none ∧ m = 0)) := fun A w hf hw => by
  subst hv
  obtain ⟨r', w', h2, h3, h4, h5⟩ := append_row (P := c.P) (t := t) (ty := ty) (c := cp) ht hi hzs hs0 hr (hw.perm hcut.perm) hl (fun a ha => hm a ha w hw) hoa h1 hb hb1
  refine ⟨_, _, w', ?_, h3, r', rfl, rfl, h4, h5⟩
  rw [BigFrame.execOp_builtin, BigFrame.builtin_append]
  simp [hf.ev hx, hf.ev hy, h2]

/-- 'append(s, x)': what is appended has just been laid; s may be nil. -/
theorem Eg.append1 {x y : Operand} {t e : TypeId} {s bytes n m cp : Nat} {z : Value} {r : Option Row} {xs news : List Value} {a : Addr} {H0 : Blocks} {v : Value}
    (hx : ev σ x = some v) (hv : v = Row.v n r) (hy : ev σ y = some (.slice (some a) m cp)) (hcut : Cut (Row.b e r) H H0)
    (ht : c.P.underlying t = some (.slice e)) (hi : (c.P.info? e).map (fun i => (i.zero, i.size, i.bytes)) = some (some z, s, bytes)) (hzs : z.cells.size = s) (hs0 : 0 < s) (hb1 : 0 < bytes)
    (hr : Row.ok s n xs r) (hm : Rds c H a news) (hl : news.length = m * s) (hm0 : 0 < m) (h1 : ∀ u ∈ news, u.oneCell' = true)
    (hb : (n + m) * bytes ≤ 140737488355328) :
    Eg c σ H ⟨dst, .call { callee := .builtin .append, args := #[x, y], argTypes := #[t, t] }, ty, pos, af, gd⟩
      (fun v H' => ∃ r' : Row, v = Row.v (n + m) (some r') ∧ H' = H0 ++ Row.b e (some r') ∧ Row.ok s (n + m) (xs ++ news) (some r')) := fun A w hf hw => by
  obtain ⟨v', H', w', h2, h3, r', h4, h5, h6, h7⟩ := Eg.append (dst := dst) (ty := ty) (pos := pos) (af := af) (gd := gd) hx hv hy hcut ht hi hzs hs0 hb1 hr hl (fun a ha => by cases ha; exact hm) (fun h => by cases h) h1 hb A w hf hw
  cases r' with
  | none => have := (h7.1 rfl).2; omega
  | some r' => exact ⟨v', H', w', h2, h3, r', h4, h5, h6⟩

theorem zeroCells_one {z : Value} (hz : z.cells = #[z]) (k : Nat) : Builtin.zeroCells z.cells k = (List.replicate k z).toArray := by
  apply Array.ext
  · rw [size_zeroCells, hz]; simp
  · intro j h1 h2
    have : j % 1 = 0 := Nat.mod_one j
    simp [Builtin.zeroCells, hz, this]

theorem run_append_room_zeros {P : Program} (w : World) (t tn ty e : TypeId) (i : TypeInfo) (z : Value) (kq kn : IntKind) (ht : P.underlying t = some (.slice e)) (htn : P.underlying tn = some (.int kn)) (hi : P.info? e = some i) (hz : i.zero = some z)
    (g sLen sCap : Nat) (cur : Array Value) (hg : w.heap[g]? = some (.cells cur e (0, 0))) (k : Nat) (hz2 : z.cells = #[z]) (hz1 : z.oneCell' = true) (hs : i.size = 1)
    (hroom : sLen + k ≤ sCap) (hfit : sLen + k ≤ cur.size) (h63 : (k : Int) ≤ 9223372036854775807) (h48 : k * i.bytes ≤ 281474976710656) :
    (Builtin.append_ #[t, tn] ty #[.slice (some ⟨g, 0, none⟩) sLen sCap, .int kq k]).run P w =
      .ok (.slice (some ⟨g, 0, none⟩) (sLen + k) sCap) (w.setRow g (cur.toList.take sLen ++ List.replicate k z ++ cur.toList.drop (sLen + k)).toArray) := by
  have hw : IntKind.i64.wrap (k : Int) = k := by rw [IntKind.wrap_i64]; omega
  have h48i : ¬ (281474976710656 < (k : Int) * (i.bytes : Int)) := by
    have : ((k : Int) * (i.bytes : Int)) = ((k * i.bytes : Nat) : Int) := by simp
    rw [this]; omega
  have hneg : ¬ ((k : Int) < 0) := by omega
  have hst := run_storeCells_at P g sLen e (List.replicate k z) 0 cur w hg (by simp; omega) (by intro u hu; rw [List.eq_of_mem_replicate hu]; exact hz1)
  simp only [Nat.add_zero, List.length_replicate] at hst
  by_cases hk : k = 0
  · subst hk
    have hw0 : IntKind.i64.wrap 0 = 0 := IntWalk.i64_in 0 (by omega)
    have hr0 : sLen ≤ sCap := by omega
    simp only [List.replicate_zero, Nat.add_zero, List.append_nil, List.take_append_drop, Array.toArray_toList] at hst
    simp [Builtin.append_, run_underlying ht, run_underlying htn, sizeOf, typeInfo, hi, asInt, asIntOf, hw0, hs, hr0, add_lit, hst]
  · simp [Builtin.append_, run_underlying ht, run_underlying htn, sizeOf, typeInfo, zeroValue, hi, hz, asInt, asIntOf, hw, h48i, hneg, hs, hk, hroom, zeroCells_one hz2, add_lit, hst]

/-- 'append(s, make([]T, k)...)': zeros; elements of one cell. -/
theorem Eg.appendZ {x y : Operand} {t e ti : TypeId} {bytes n k : Nat} {ki : IntKind} {z : Value} {r : Option Row} {xs : List Value} {H0 : Blocks} {v : Value}
    (hx : ev σ x = some v) (hv : v = Row.v n r) (hy : ev σ y = some (.int .i64 (k : Int))) (hcut : Cut (Row.b e r) H H0)
    (ht : c.P.underlying t = some (.slice e)) (hti : c.P.underlying ti = some (.int ki)) (hi : (c.P.info? e).map (fun i => (i.zero, i.size, i.bytes)) = some (some z, 1, bytes)) (hz1 : z.oneCell' = true) (hz2 : z.cells = #[z]) (hb1 : 0 < bytes)
    (hr : Row.ok 1 n xs r) (hb : (n + k) * bytes ≤ 140737488355328) :
    Eg c σ H ⟨dst, .call { callee := .builtin .append, args := #[x, y], argTypes := #[t, ti] }, ty, pos, af, gd⟩
      (fun v H' => ∃ r', v = Row.v (n + k) r' ∧ H' = H0 ++ Row.b e r' ∧ Row.ok 1 (n + k) (xs ++ List.replicate k z) r' ∧ (r' = none ↔ r = none ∧ k = 0)) := fun A w hf hw => by
  subst hv
  obtain ⟨i, hi', hz, hsize, hby⟩ := info_parts hi
  subst hby
  have hw' := hw.perm hcut.perm
  have hnk : n + k ≤ 140737488355328 := Nat.le_trans (Nat.le_mul_of_pos_right _ hb1) hb
  have hkb : k * i.bytes ≤ 140737488355328 := Nat.le_trans (Nat.mul_le_mul_right _ (by omega)) hb
  have hexec : execOp A.eval ⟨dst, .call { callee := .builtin .append, args := #[x, y], argTypes := #[t, ti] }, ty, pos, af, gd⟩ = (do pure (Next.value (← Builtin.append_ #[t, ti] ty #[A.eval x, A.eval y]))) := by
    rw [BigFrame.execOp_builtin, BigFrame.builtin_append]; simp
  have fin : ∀ v' w', (Builtin.append_ #[t, ti] ty #[Row.v n r, .int .i64 (k : Int)]).run c.P w = .ok v' w' → (execOp A.eval ⟨dst, .call { callee := .builtin .append, args := #[x, y], argTypes := #[t, ti] }, ty, pos, af, gd⟩).run c.P w = .ok (.value v') w' := fun v' w' h => by
    rw [hexec, hf.ev hx, hf.ev hy]; simp [h]
  have grown : ∀ (old : Nat), old < n + k → (xs.length = n) → (∀ x, x ∈ Row.b e r → True) →
      Hp c.w0 (H0 ++ Row.b e (some ⟨w.heap.size, grownCap w (n + k) old e, xs.toArray ++ Builtin.zeroCells z.cells k ++ Builtin.zeroCells z.cells (grownCap w (n + k) old e - (n + k))⟩)) (w.drew.alloc (.cells (xs.toArray ++ Builtin.zeroCells z.cells k ++ Builtin.zeroCells z.cells (grownCap w (n + k) old e - (n + k))) e)) ∧
      Row.ok 1 (n + k) (xs ++ List.replicate k z) (some ⟨w.heap.size, grownCap w (n + k) old e, xs.toArray ++ Builtin.zeroCells z.cells k ++ Builtin.zeroCells z.cells (grownCap w (n + k) old e - (n + k))⟩) := by
    intro old _ hxl _
    have hge := grownCap_ge w (n + k) old e
    have hzl : ∀ j, (Builtin.zeroCells z.cells j).size = j := fun j => by rw [size_zeroCells, hz2]; simp
    refine ⟨?_, by simp [hxl], hge, grownCap_le_maxLen w _ _ e (by unfold maxLen; omega), ?_, ?_⟩
    · have h3 := (hw'.drew).alloc (.cells (xs.toArray ++ Builtin.zeroCells z.cells k ++ Builtin.zeroCells z.cells (grownCap w (n + k) old e - (n + k))) e (0, 0))
      refine ⟨h3.below, fun x hx => h3.blk x ?_, ?_, h3.mono⟩
      · simp only [Row.b, List.mem_append, List.mem_singleton] at hx
        rcases hx with hx | hx
        · simp [hx]
        · subst hx; simp
      · have h4 := h3.apart
        simp only [List.pairwise_cons, List.pairwise_append, List.mem_append] at h4
        simp only [Row.b, List.pairwise_append]
        refine ⟨h4.2.1, List.pairwise_singleton _ _, fun x hx y hy => ?_⟩
        simp only [List.mem_singleton] at hy
        subst hy
        exact fun e => h4.1 x (.inl hx) e.symm
    · simp only [Array.size_append, List.size_toArray, hzl, hxl, Nat.mul_one]
      omega
    · simp only [Array.toList_append, zeroCells_one hz2, Nat.mul_one]
      rw [show n + k = (xs ++ List.replicate k z).length from by simp [hxl]]
      exact List.take_left
  cases r with
  | none =>
    obtain ⟨rfl, rfl⟩ := hr
    by_cases hk : k = 0
    · subst hk
      refine ⟨_, _, w, fin (.slice none 0 0) w ?_, hw', none, rfl, rfl, by simp [Row.ok], by simp⟩
      simp [Row.v, Builtin.append_, run_underlying ht, run_underlying hti, sizeOf, typeInfo, hi', asInt, asIntOf, show IntKind.i64.wrap 0 = 0 from IntWalk.i64_in 0 (by omega)]
    · have hrun := Lib.run_append_nil_zeros (P := c.P) w t ti ty e i z .i64 ki ht hti hi' hz k (by omega) (by omega) (by omega) (by omega)
      have hg := grown 0 (by omega) rfl (fun _ _ => trivial)
      simp only [Nat.zero_add, List.nil_append, Array.empty_append] at hg ⊢
      exact ⟨_, _, _, fin _ _ hrun, hg.1, _, rfl, rfl, hg.2, by simp [hk]⟩
  | some r =>
    obtain ⟨hxl, hnc, hcm, hcs, htake⟩ := hr
    have hmem : (r.g, Obj.cells r.cs e (0, 0)) ∈ H0 ++ Row.b e (some r) := by simp [Row.b]
    have hg := hw'.get hmem
    by_cases hroom : n + k ≤ r.cap
    · have hrun := run_append_room_zeros (P := c.P) w t ti ty e i z .i64 ki ht hti hi' hz r.g n r.cap r.cs hg k hz2 hz1 hsize hroom (by omega) (by omega) (by omega)
      refine ⟨_, _, _, fin _ _ hrun, ?_, some ⟨r.g, r.cap, (r.cs.toList.take n ++ List.replicate k z ++ r.cs.toList.drop (n + k)).toArray⟩, rfl, rfl, ⟨by simp [hxl], hroom, hcm, ?_, ?_⟩, by simp⟩
      · refine hw'.setRow (b := r.g) (cs := r.cs) (t := e) (fr := (0, 0)) ?_
        have : ∀ (A : Blocks), Upd r.g (.cells r.cs e (0, 0)) (.cells (r.cs.toList.take n ++ List.replicate k z ++ r.cs.toList.drop (n + k)).toArray e (0, 0)) (A ++ [(r.g, .cells r.cs e (0, 0))]) (A ++ [(r.g, .cells (r.cs.toList.take n ++ List.replicate k z ++ r.cs.toList.drop (n + k)).toArray e (0, 0))]) := by
          intro A
          induction A with
          | nil => exact .here
          | cons x A ih => exact .there ih
        exact this H0
      · simp only [List.size_toArray, List.length_append, List.length_take, List.length_drop, Array.length_toList, List.length_replicate]
        omega
      · rw [Nat.mul_one] at htake
        simp only [Nat.mul_one]
        rw [htake, show n + k = (xs ++ List.replicate k z).length from by simp [hxl]]
        exact List.take_left
    · have holds : Mem w ⟨r.g, 0, none⟩ xs := fun j u hj => by
        rw [add_lit]
        refine (cell_own hw' hmem _).trans ?_
        rw [← htake, List.getElem?_take] at hj
        split at hj
        · simpa using hj
        · cases hj
      have hold := run_firstCells_some (P := c.P) w.drew i.size n _ n r.cap xs (by rw [hsize]; exact hxl) holds
      have hrun := Lib.run_append_grow_zeros (P := c.P) w t ti ty e i z .i64 ki ht hti hi' hz (some ⟨r.g, 0, none⟩) n r.cap xs hold k (by omega) (by omega) (by omega) (by omega) (by omega) (growslice_fits (by omega) hb)
      have hg := grown r.cap (by omega) (by simpa using hxl) (fun _ _ => trivial)
      exact ⟨_, _, _, fin _ _ hrun, hg.1, _, rfl, rfl, hg.2, by simp⟩

theorem Eg.appendZs {x y : Operand} {t e ti : TypeId} {bytes n k : Nat} {ki : IntKind} {z : Value} {r : Row} {xs : List Value} {H0 : Blocks} {v : Value}
    (hx : ev σ x = some v) (hv : v = Row.v n (some r)) (hy : ev σ y = some (.int .i64 (k : Int))) (hcut : Cut (Row.b e (some r)) H H0)
    (ht : c.P.underlying t = some (.slice e)) (hti : c.P.underlying ti = some (.int ki)) (hi : (c.P.info? e).map (fun i => (i.zero, i.size, i.bytes)) = some (some z, 1, bytes)) (hz1 : z.oneCell' = true) (hz2 : z.cells = #[z]) (hb1 : 0 < bytes)
    (hr : Row.ok 1 n xs (some r)) (hb : (n + k) * bytes ≤ 140737488355328) :
    Eg c σ H ⟨dst, .call { callee := .builtin .append, args := #[x, y], argTypes := #[t, ti] }, ty, pos, af, gd⟩
      (fun v H' => ∃ r' : Row, v = Row.v (n + k) (some r') ∧ H' = H0 ++ Row.b e (some r') ∧ Row.ok 1 (n + k) (xs ++ List.replicate k z) (some r')) := fun A w hf hw => by
  obtain ⟨v', H', w', h2, h3, r', h4, h5, h6, h7⟩ := Eg.appendZ (dst := dst) (ty := ty) (pos := pos) (af := af) (gd := gd) hx hv hy hcut ht hti hi hz1 hz2 hb1 hr hb A w hf hw
  cases r' with
  | none => cases (h7.1 rfl).1
  | some r' => exact ⟨v', H', w', h2, h3, r', h4, h5, h6⟩

theorem Rds.all {b : Nat} {vs : List Value} {t : TypeId} {fr : Nat × Nat} (hb : (b, Obj.cells vs.toArray t fr) ∈ H) : Rds c H ⟨b, 0, none⟩ vs :=
  Rds.own hb fun j v hj => by simpa using hj

/-! ### copy, into a block of the call's own; a string of bytes -/
theorem Eg.copy {x y : Operand} {t ts e tb : TypeId} {b o dl dc sl sc n : Nat} {cs : Array Value} {sa : Addr} {l : List Value} {H' : Blocks}
    (hx : ev σ x = some (.slice (some ⟨b, o, none⟩) dl dc)) (hy : ev σ y = some (.slice (some sa) sl sc)) (ht : c.P.underlying t = some (.slice e)) (hs : ∀ w, (sizeOf e).run c.P w = .ok 1 w)
    (hu : Upd b (.cells cs tb (0, 0)) (.cells (over cs o l) tb (0, 0)) H H') (hn : n = Nat.min sl dl) (hl : l.length = n) (hm : Rds c H sa l) (ho : o + n ≤ cs.size) (h1 : ∀ u ∈ l, u.oneCell' = true) :
    Eg c σ H ⟨dst, .call { callee := .builtin .copy, args := #[x, y], argTypes := #[t, ts] }, ty, pos, af, gd⟩ (fun v H'' => v = .int .i64 (n : Int) ∧ H'' = H') := fun A w hf hw => by
  refine ⟨_, _, w.setRow b (over cs o l), ?_, hw.setRow hu, rfl, rfl⟩
  have hf1 := run_firstCells_some (P := c.P) w 1 n sa sl sc l (by simpa using hl) (hm w hw)
  have hst := run_storeCells_at c.P b o tb l 0 cs w (hw.get hu.mem) (by omega) h1
  simp only [Nat.add_zero] at hst
  have hn' : Nat.min sl dl = n := hn.symm
  rw [BigFrame.execOp_builtin, BigFrame.builtin_copy]
  simp [hf.ev hx, hf.ev hy, Builtin.copy_, run_underlying ht, hs, Builtin.lenOf, hn', hf1, hst, goInt, over]

theorem push_all : ∀ (l : List UInt8) (r : ByteArray), (l.map (fun x => (x.toNat : Int))).foldl (fun r n => r.push (UInt8.ofNat n.toNat)) r = ⟨r.data ++ l.toArray⟩
  | [], r => by simp
  | x :: l, r => by
    simp only [List.map_cons, List.foldl_cons]
    rw [push_all l]
    congr 1
    simp [ByteArray.push]

/-- The bytes as a string. -/
def strOf (l : List UInt8) : Value := .string ⟨l.toArray⟩
theorem Ev.str {s d e : TypeId} {x : Operand} {oa : Option Addr} {len cap : Nat} {l : List UInt8} (hx : ev σ x = some (.slice oa len cap)) (hs : c.P.underlying s = some (.slice e)) (hd : c.P.underlying d = some .string) (he : c.P.underlying e = some (.int .u8))
    (hl : l.length = len) (hoa : oa = none → len = 0) (hm : ∀ a, oa = some a → Rds c H a (l.map u8)) : Ev c σ H ⟨dst, .convert s d x, ty, pos, af, gd⟩ (strOf l) := fun A w hf hw => by
  subst hl
  have key : (Conv.bytesToString (.slice oa l.length cap)).run c.P w = .ok (strOf l) w := by
    cases oa with
    | none =>
      obtain rfl := List.eq_nil_of_length_eq_zero (hoa rfl)
      simp [Conv.bytesToString, strOf]; rfl
    | some a =>
      have h1 := run_loadCells_list (P := c.P) w a (l.map u8) (hm a rfl w hw)
      rw [List.length_map] at h1
      have h2 := run_bytesToString (P := c.P) w a l.length cap (l.map (fun x => (x.toNat : Int))) (by rw [h1]; simp [u8, Function.comp_def])
      rw [h2, push_all]
      simp [strOf]
  simp [execOp, hf.ev hx, convert, run_underlying hs, run_underlying hd, run_underlying he, key]
end

/-! ### Bytes and words in memory -/
def arr32 (l : List UInt32) : Array Value := (l.map u32).toArray
def arr8 (l : List UInt8) : Array Value := (l.map u8).toArray
theorem arr32_size (l : List UInt32) : (arr32 l).size = l.length := by simp [arr32]
theorem arr8_size (l : List UInt8) : (arr8 l).size = l.length := by simp [arr8]
theorem arr32_get {l : List UInt32} {k : Nat} {x : UInt32} (h : l[k]? = some x) : (arr32 l)[k]? = some (u32 x) := by simp [arr32, h]
theorem arr8_get {l : List UInt8} {k : Nat} {x : UInt8} (h : l[k]? = some x) : (arr8 l)[k]? = some (u8 x) := by simp [arr8, h]
theorem arr32_set (l : List UInt32) (k : Nat) (x : UInt32) : (arr32 l).setIfInBounds k (u32 x) = arr32 (l.set k x) := by
  simp [arr32]
theorem arr8_set (l : List UInt8) (k : Nat) (x : UInt8) : (arr8 l).setIfInBounds k (u8 x) = arr8 (l.set k x) := by
  simp [arr8]
theorem arr32_one (l : List UInt32) : ∀ u ∈ (arr32 l).toList, u.oneCell' = true := by
  intro u hu; simp [arr32] at hu; obtain ⟨x, _, rfl⟩ := hu; rfl
theorem arr8_one (l : List UInt8) : ∀ u ∈ (arr8 l).toList, u.oneCell' = true := by
  intro u hu; simp [arr8] at hu; obtain ⟨x, _, rfl⟩ := hu; rfl
theorem u8s_one (l : List UInt8) : ∀ u ∈ l.map u8, u.oneCell' = true := by
  intro u hu; simp at hu; obtain ⟨x, _, rfl⟩ := hu; rfl

/-- The bytes l from a on. -/
def BMem (w : World) (a : Addr) (l : List UInt8) : Prop := Mem w a (l.map u8)
theorem BMem.cut {w : World} {a : Addr} {l : List UInt8} (h : BMem w a l) (k n : Nat) : BMem w (a.add k) ((l.drop k).take n) := by
  have := Mem.cut h k n
  rwa [← List.map_drop, ← List.map_take] at this
theorem BMem.drop {w : World} {a : Addr} {l : List UInt8} (h : BMem w a l) (k : Nat) : BMem w (a.add k) (l.drop k) := by
  have := h.cut k l.length
  rwa [List.take_of_length_le (by simp)] at this
theorem BMem.take {w : World} {a : Addr} {l : List UInt8} (h : BMem w a l) (n : Nat) : BMem w a (l.take n) := by
  have := h.cut 0 n
  rwa [List.drop_zero, show a.add 0 = a from by simp [Addr.add]] at this
theorem BMem.at {w : World} {a : Addr} {l : List UInt8} (h : BMem w a l) {k : Nat} (hk : k < l.length) : w.cell? (a.add k) = some (u8 (l.getD k 0)) := by
  refine h k _ ?_
  simp [hk]
theorem BMem.old {w0 w : World} {H : Blocks} {a : Addr} {l : List UInt8} (h : Hp w0 H w) (hm : BMem w0 a l) : BMem w a l := Mem.old h hm
/-- A slice that reads as these bytes. -/
structure Bs (w : World) (oa : Option Addr) (cap : Nat) (l : List UInt8) : Prop where
  le : l.length ≤ cap
  top : cap ≤ maxLen
  empty : oa = none → cap = 0
  mem : ∀ a, oa = some a → BMem w a l
theorem Bs.old {w0 w : World} {H : Blocks} {oa : Option Addr} {cap : Nat} {l : List UInt8} (hw : Hp w0 H w) (h : Bs w0 oa cap l) : Bs w oa cap l :=
  ⟨h.le, h.top, h.empty, fun a ha => (h.mem a ha).old hw⟩
end Go.Proofs.YtebinlinhmohbaaDoor
