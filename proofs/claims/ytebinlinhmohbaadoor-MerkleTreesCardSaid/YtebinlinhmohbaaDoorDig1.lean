/-
  The program's digest: its words, its schedule, one step.
-/
import Derived.Test.YtebinlinhmohbaaDoorProg
import Derived.Test.YtebinlinhmohbaaDoorShaMem
import Derived.KernelRfl
namespace Go.Proofs.YtebinlinhmohbaaDoor
open Go Go.RowKit
set_option maxRecDepth 100000

theorem and31 {P : Program} {T : TypeId} {n : Nat} (hn : 0 < n) (hn1 : n < 32) : Bin P .and T (.int .u64 (IntKind.u64.wrap (-(n : Int)))) (.int .u64 31) (.int .u64 ((32 - n : Nat) : Int)) := Bin.int fun w => by
  have h1 : IntKind.u64.wrap (-(n : Int)) = ((18446744073709551616 - n : Nat) : Int) := by rw [IntKind.wrap_u64]; omega
  rw [h1]
  have h2 : (BitVec.ofInt 64 ((18446744073709551616 - n : Nat) : Int) &&& BitVec.ofInt 64 31).toNat = 32 - n := by
    rw [BitVec.toNat_and, BitVec.toNat_ofInt, BitVec.toNat_ofInt]
    have e1 : (((18446744073709551616 - n : Nat) : Int) % ((2 ^ 64 : Nat) : Int)).toNat = 18446744073709551616 - n := by omega
    have e2 : ((31 : Int) % ((2 ^ 64 : Nat) : Int)).toNat = 2 ^ 5 - 1 := by decide
    rw [e1, e2, Nat.and_two_pow_sub_one_eq_mod]
    omega
  simp only [binOp, Op.intBits]
  exact congrArg (fun m => Result.ok (Value.int IntKind.u64 m) w) ((congrArg (fun m : Nat => IntKind.u64.wrap (m : Int)) h2).trans (wrap_u64n _ (by omega)))
theorem sub32 {P : Program} {T : TypeId} {n : Nat} (hn : 0 < n) (hn1 : n < 32) : Bin P .sub T (.int .u64 32) (.int .u64 ((32 - n : Nat) : Int)) (.int .u64 (n : Int)) := Bin.int fun w => by
  have : IntKind.u64.wrap (32 - ((32 - n : Nat) : Int)) = (n : Int) := by rw [IntKind.wrap_u64]; omega
  simp only [binOp, Op.intArith, this]; rfl

theorem word_any (a : Addr) (len cap : Nat) (l : List UInt8) (w : World) (hm : BMem w a l) (hl : l.length = len) (h4 : 4 ≤ len) :
    Calls Tryd.prog 61 #[.slice (some a) len cap] w (Ret w (fun v _ => v = u32 (beWord l 0))) := by
  refine enter (vs := [.slice (some a) len cap]) Tryd.func61 rfl Tryd.ntmps61 rfl ?_
  refine JC.seq ?_
  -- region 0
  refine JC.region ?_
  refine JL.val rfl rfl rfl (.none rfl) (Ev.assign rfl) ?_
  refine JL.nil ?_
  refine JQ.thenN ?_
  refine JC.seq ?_
  -- region 1
  refine JC.regionQ (by kernel_rfl) (by kernel_rfl) ?_
  refine JW.val rfl rfl (.none rfl) (Ev.move rfl) ?_
  refine JW.val rfl rfl (.none rfl) (Ev.idxS1 (k := 0) rfl rfl Tryd.underlying71 Tryd.sizeOf5 rfl (by omega)) ?_
  refine JW.val rfl rfl (.none rfl) (Ev.load1 rfl Tryd.underlying5 rfl (Rd.old (hm.at (k := 0) (by omega)))) ?_
  refine JW.val rfl rfl (.none rfl) (Ev.conv rfl (conv_u8_u32 Tryd.underlying5 Tryd.underlying77)) ?_
  refine JW.val rfl rfl (.none rfl) (Ev.bin rfl rfl (shl_u32 (n := 24) (by decide))) ?_
  refine JW.val rfl rfl (.none rfl) (Ev.move rfl) ?_
  refine JW.val rfl rfl (.none rfl) (Ev.idxS1 (k := 1) rfl rfl Tryd.underlying71 Tryd.sizeOf5 rfl (by omega)) ?_
  refine JW.val rfl rfl (.none rfl) (Ev.load1 rfl Tryd.underlying5 rfl (Rd.old (hm.at (k := 1) (by omega)))) ?_
  refine JW.val rfl rfl (.none rfl) (Ev.conv rfl (conv_u8_u32 Tryd.underlying5 Tryd.underlying77)) ?_
  refine JW.val rfl rfl (.none rfl) (Ev.bin rfl rfl (shl_u32 (n := 16) (by decide))) ?_
  refine JW.val rfl rfl (.none rfl) (Ev.bin rfl rfl or_u32) ?_
  refine JW.val rfl rfl (.none rfl) (Ev.move rfl) ?_
  refine JW.val rfl rfl (.none rfl) (Ev.idxS1 (k := 2) rfl rfl Tryd.underlying71 Tryd.sizeOf5 rfl (by omega)) ?_
  refine JW.val rfl rfl (.none rfl) (Ev.load1 rfl Tryd.underlying5 rfl (Rd.old (hm.at (k := 2) (by omega)))) ?_
  refine JW.val rfl rfl (.none rfl) (Ev.conv rfl (conv_u8_u32 Tryd.underlying5 Tryd.underlying77)) ?_
  refine JW.val rfl rfl (.none rfl) (Ev.bin rfl rfl (shl_u32 (n := 8) (by decide))) ?_
  refine JW.val rfl rfl (.none rfl) (Ev.bin rfl rfl or_u32) ?_
  refine JW.val rfl rfl (.none rfl) (Ev.move rfl) ?_
  refine JW.val rfl rfl (.none rfl) (Ev.idxS1 (k := 3) rfl rfl Tryd.underlying71 Tryd.sizeOf5 rfl (by omega)) ?_
  refine JW.val rfl rfl (.none rfl) (Ev.load1 rfl Tryd.underlying5 rfl (Rd.old (hm.at (k := 3) (by omega)))) ?_
  refine JW.val rfl rfl (.none rfl) (Ev.conv rfl (conv_u8_u32 Tryd.underlying5 Tryd.underlying77)) ?_
  refine JW.val rfl rfl (.none rfl) (Ev.bin rfl rfl or_u32) ?_
  refine JW.val rfl rfl (.none rfl) (Ev.assign rfl) ?_
  refine JW.nilQ ?_
  refine JQ.thenN ?_
  refine JC.ret ?_
  refine JQ.end1 (H' := []) (.inl rfl) rfl (.tmp rfl) ?_ ?_
  · first | exact Sub.all | exact Sub.of_cnt (fun a => by (try dsimp only); simp only [cntA]; omega) | repeat (first | exact Sub.nil | refine Sub.cons (by first | exact .here | exact .there .here | exact .there (.there .here) | exact .there (.there (.there .here)) | exact .there (.there (.there (.there .here)))) ?_ | exact Sub.all)
  · exact rfl

theorem rot_any (x : UInt32) (n : Nat) (hn : 0 < n) (hn1 : n < 32) (w : World) :
    Calls Tryd.prog 62 #[u32 x, .int .i64 (-(n : Int))] w (Ret w (fun v _ => v = u32 (rotr x n))) := by
  refine enter (vs := [u32 x, .int .i64 (-(n : Int))]) Tryd.func62 rfl Tryd.ntmps62 rfl ?_
  refine JC.seq ?_
  -- region 0
  refine JC.region ?_
  refine JL.val rfl rfl rfl (.none rfl) (Ev.assign rfl) ?_
  refine JL.nil ?_
  refine JQ.thenN ?_
  refine JC.seq ?_
  -- region 1
  refine JC.region ?_
  refine JL.val rfl rfl rfl (.none rfl) (Ev.move rfl) ?_
  refine JL.val rfl rfl rfl (.none rfl) (Ev.conv rfl (conv_int Tryd.underlying3 Tryd.underlying84)) ?_
  refine JL.val rfl rfl rfl (.none rfl) (Ev.bin rfl rfl (and31 hn hn1)) ?_
  refine JL.val rfl rfl rfl (.none rfl) (Ev.assign rfl) ?_
  refine JL.nil ?_
  refine JQ.thenN ?_
  refine JC.seq ?_
  -- region 2
  refine JC.region ?_
  refine JL.val rfl rfl rfl (.none rfl) (Ev.move rfl) ?_
  refine JL.val rfl rfl rfl (.none rfl) (Ev.move rfl) ?_
  refine JL.val rfl rfl rfl (.none rfl) (Ev.bin rfl rfl (shl_u32 (n := 32 - n) (by omega))) ?_
  refine JL.val rfl rfl rfl (.none rfl) (Ev.move rfl) ?_
  refine JL.val rfl rfl rfl (.none rfl) (Ev.move rfl) ?_
  refine JL.val rfl rfl rfl (.none rfl) (Ev.bin rfl rfl (sub32 hn hn1)) ?_
  refine JL.val rfl rfl rfl (.none rfl) (Ev.bin rfl rfl (shr_u32 (n := n) (by omega))) ?_
  refine JL.val rfl rfl rfl (.none rfl) (Ev.bin rfl rfl or_u32) ?_
  refine JL.val rfl rfl rfl (.none rfl) (Ev.assign rfl) ?_
  refine JL.nil ?_
  refine JQ.thenN ?_
  refine JC.ret ?_
  refine JQ.end1 (H' := []) (.inl rfl) rfl (.tmp rfl) ?_ ?_
  · first | exact Sub.all | exact Sub.of_cnt (fun a => by (try dsimp only); simp only [cntA]; omega) | repeat (first | exact Sub.nil | refine Sub.cons (by first | exact .here | exact .there .here | exact .there (.there .here) | exact .there (.there (.there .here)) | exact .there (.there (.there (.there .here)))) ?_ | exact Sub.all)
  · rw [rotr, UInt32.or_comm]

theorem right_any (x : UInt32) (n : Nat) (hn : 0 < n) (hn1 : n < 32) (w : World) :
    Calls Tryd.prog 57 #[u32 x, .int .i64 (n : Int)] w (Ret w (fun v _ => v = u32 (rotr x n))) := by
  refine enter (vs := [u32 x, .int .i64 (n : Int)]) Tryd.func57 rfl Tryd.ntmps57 rfl ?_
  refine JC.seq ?_
  -- region 0
  refine JC.region ?_
  refine JL.val rfl rfl rfl (.none rfl) (Ev.assign rfl) ?_
  refine JL.nil ?_
  refine JQ.thenN ?_
  refine JC.seq ?_
  -- region 1
  refine JC.region ?_
  refine JL.val rfl rfl rfl (.none rfl) (Ev.move rfl) ?_
  refine JL.val rfl rfl rfl (.none rfl) (Ev.move rfl) ?_
  refine JL.val rfl rfl rfl (.none rfl) (Ev.neg64 rfl (by omega)) ?_
  refine JL.callV rfl (.none rfl) rfl Tryd.call62 (fun w1 hw1 => rot_any x n hn hn1 w1) ?_
  refine JL.val rfl rfl rfl (.none rfl) (Ev.assign rfl) ?_
  refine JL.nil ?_
  refine JQ.thenN ?_
  refine JC.ret ?_
  refine JQ.end1 (H' := []) (.inl rfl) rfl (.tmp rfl) ?_ ?_
  · first | exact Sub.all | exact Sub.of_cnt (fun a => by (try dsimp only); simp only [cntA]; omega) | repeat (first | exact Sub.nil | refine Sub.cons (by first | exact .here | exact .there .here | exact .there (.there .here) | exact .there (.there (.there .here)) | exact .there (.there (.there (.there .here)))) ?_ | exact Sub.all)
  · exact rfl

theorem spread_any (a : Addr) (cap : Nat) (l : List UInt8) (w : World) (hm : BMem w a l) (hl : l.length = 64) (hc : 64 ≤ cap) :
    Calls Tryd.prog 56 #[.slice (some a) 64 cap] w (Ret w (fun v _ => v = .agg (arr32 (sched l 64)))) := by
  refine enter (vs := [.slice (some a) 64 cap]) Tryd.func56 rfl Tryd.ntmps56 rfl ?_
  refine JC.seq ?_
  -- region 0
  refine JC.region ?_
  refine JL.new rfl rfl rfl (.none rfl) (En.allocZ (cs := arr32 (List.replicate 64 0)) Tryd.zeroValue90 rfl) (fun b2 hb2 => ?_)
  refine JL.nil ?_
  refine JQ.thenN ?_
  refine JC.seq ?_
  refine JC.seq ?_
  -- region 1
  refine JC.region ?_
  refine JL.val rfl rfl rfl (.none rfl) (Ev.move rfl) ?_
  refine JL.nil ?_
  refine JQ.thenN ?_
  refine JC.block ?_
  refine JC.reH (o' := .cells (arr32 (fillW l 0)) 90 (0, 0)) .here rfl ?_
  refine JC.loop (X := Nat)
    (fun k => [(0, .slice (some a) 64 cap), (2, .pointer (some ⟨b2, 0, none⟩)), (7, .int .i64 (k : Int))])
    (fun k => [(b2, .cells (arr32 (fillW l k)) 90 (0, 0))])
    (fun k => k ≤ 16)
    (fun k => 16 - k) 0 ?_ ?_ ?_ ?_
  · exact Keeps.get (by repeat (first | exact Keeps.nil | refine Keeps.cons rfl ?_))
  · first | exact Sub.all | exact Sub.of_cnt (fun a => by (try dsimp only); simp only [cntA]; omega) | repeat (first | exact Sub.nil | refine Sub.cons (by first | exact .here | exact .there .here | exact .there (.there .here) | exact .there (.there (.there .here)) | exact .there (.there (.there (.there .here)))) ?_ | exact Sub.all)
  · omega
  rintro k hk
  refine JC.seq ?_
  -- region 2
  refine JC.region ?_
  refine JL.val rfl rfl rfl (.none rfl) (Ev.bin rfl rfl lss_int) ?_
  refine JL.nil ?_
  refine JQ.thenN ?_
  refine JC.seq ?_
  refine JC.cond rfl (fun hc1 => ?_) (fun hc1 => ?_)
  · -- t8 True
    replace hc1 := of_decide_eq_true hc1
    refine JC.skip ?_
    refine JQ.thenN ?_
    refine JC.seq ?_
    refine JC.block ?_
    refine JC.seq ?_
    -- region 3
    refine JC.region ?_
    refine JL.val rfl rfl rfl (.none rfl) (Ev.move rfl) ?_
    refine JL.val rfl rfl rfl (.none rfl) (Ev.assign rfl) ?_
    refine JL.nil ?_
    refine JQ.thenN ?_
    -- region 4
    refine JC.region ?_
    refine JL.val rfl rfl rfl (.none rfl) (Ev.move rfl) ?_
    refine JL.val rfl rfl rfl (.none rfl) (Ev.move rfl) ?_
    refine JL.val rfl rfl rfl (.none rfl) (Ev.move rfl) ?_
    refine JL.val rfl rfl rfl (.none rfl) (Ev.bin rfl rfl (mul_i64 (by omega))) ?_
    refine JL.val rfl rfl rfl (.none rfl) (Ev.sliceLo rfl rfl Tryd.underlying71 Tryd.sizeOf5 (l := 4 * k) (by omega) (by omega)) ?_
    refine JL.re (d := 14) rfl (sub3_some (by omega)) ?_
    refine JL.callV rfl (.none rfl) rfl Tryd.call61 (fun w1 hw1 => word_any (a.add (4 * k)) (64 - 4 * k) (cap - 4 * k) (l.drop (4 * k)) w1 ((hm.drop _).old hw1) (by simp [hl]) (by omega)) ?_
    refine JL.val rfl rfl rfl (.none rfl) (Ev.idxB1 rfl rfl Tryd.underlying90 Tryd.sizeOf77 rfl (by omega)) ?_
    refine JL.sto rfl rfl (.none rfl) (Es.store1 rfl rfl Tryd.sizeOf77 rfl rfl (by repeat (first | exact .here | apply Upd.there | apply Upd.left)) (by rw [arr32_size, fillW_length _ (by omega)]; omega)) ?_
    refine JL.nil ?_
    refine JQ.blockN ?_
    refine JQ.thenN ?_
    -- region 5
    refine JC.region ?_
    refine JL.val rfl rfl rfl (.none rfl) (Ev.bin rfl rfl (add_i64 (by omega))) ?_
    refine JL.val rfl rfl rfl (.none rfl) (Ev.move rfl) ?_
    refine JL.nil ?_
    refine JQ.reH .here (congrArg (fun c => Obj.cells c 90 (0, 0)) (fillW_set l (by omega) (by rw [if_pos (by omega), beWord_drop]))) ?_
    refine JQ.loopN (k + 1) ?_ ?_ ?_ ?_
    · exact Keeps.get (by repeat (first | exact Keeps.nil | refine Keeps.cons rfl ?_))
    · first | exact Sub.all | exact Sub.of_cnt (fun a => by (try dsimp only); simp only [cntA]; omega) | repeat (first | exact Sub.nil | refine Sub.cons (by first | exact .here | exact .there .here | exact .there (.there .here) | exact .there (.there (.there .here)) | exact .there (.there (.there (.there .here)))) ?_ | exact Sub.all)
    · omega
    · omega
  · -- t8 False
    replace hc1 := of_decide_eq_false hc1
    refine JC.exit ?_
    refine JQ.thenE ?_
    refine JQ.thenE ?_
    refine JQ.blockE ?_
    refine JQ.thenN ?_
    refine JC.seq ?_
    refine JC.seq ?_
    -- region 6
    refine JC.region ?_
    refine JL.val rfl rfl rfl (.none rfl) (Ev.assign rfl) ?_
    refine JL.nil ?_
    refine JQ.thenN ?_
    refine JC.block ?_
    obtain rfl : k = 16 := by omega
    refine JC.loop (X := Nat)
      (fun k => [(2, .pointer (some ⟨b2, 0, none⟩)), (4, .int .i64 (k : Int))])
      (fun k => [(b2, .cells (arr32 (fillW l k)) 90 (0, 0))])
      (fun k => 16 ≤ k ∧ k ≤ 64)
      (fun k => 64 - k) 16 ?_ ?_ ?_ ?_
    · exact Keeps.get (by repeat (first | exact Keeps.nil | refine Keeps.cons rfl ?_))
    · first | exact Sub.all | exact Sub.of_cnt (fun a => by (try dsimp only); simp only [cntA]; omega) | repeat (first | exact Sub.nil | refine Sub.cons (by first | exact .here | exact .there .here | exact .there (.there .here) | exact .there (.there (.there .here)) | exact .there (.there (.there (.there .here)))) ?_ | exact Sub.all)
    · omega
    rintro k hk
    refine JC.seq ?_
    refine JC.seq ?_
    -- region 7
    refine JC.region ?_
    refine JL.val rfl rfl rfl (.none rfl) (Ev.move rfl) ?_
    refine JL.val rfl rfl rfl (.none rfl) (Ev.bin rfl rfl lss_int) ?_
    refine JL.nil ?_
    refine JQ.thenN ?_
    refine JC.cond rfl (fun hc2 => ?_) (fun hc2 => ?_)
    · -- t19 True
      replace hc2 := of_decide_eq_true hc2
      refine JC.skip ?_
      refine JQ.thenN ?_
      refine JC.seq ?_
      refine JC.block ?_
      refine JC.seq ?_
      -- region 9
      refine JC.regionQ (by kernel_rfl) (by kernel_rfl) ?_
      refine JW.val rfl rfl (.none rfl) (Ev.move rfl) ?_
      refine JW.val rfl rfl (.none rfl) (Ev.bin rfl rfl (sub_i64 (by omega))) ?_
      refine JW.val rfl rfl (.none rfl) (Ev.idxB1 rfl rfl Tryd.underlying90 Tryd.sizeOf77 (k := k - 15) (by omega) (by omega)) ?_
      refine JW.val rfl rfl (.none rfl) (Ev.load1 rfl Tryd.underlying77 rfl (Rd.own (by repeat (first | exact List.Mem.head _ | refine List.Mem.tail _ ?_ | refine List.mem_append_right _ ?_ | assumption)) (fillW_get l (by omega)))) ?_
      refine JW.val rfl rfl (.none rfl) (Ev.move rfl) ?_
      refine JW.val rfl rfl (.none rfl) (Ev.bin rfl rfl (sub_i64 (by omega))) ?_
      refine JW.val rfl rfl (.none rfl) (Ev.idxB1 rfl rfl Tryd.underlying90 Tryd.sizeOf77 (k := k - 2) (by omega) (by omega)) ?_
      refine JW.val rfl rfl (.none rfl) (Ev.load1 rfl Tryd.underlying77 rfl (Rd.own (by repeat (first | exact List.Mem.head _ | refine List.Mem.tail _ ?_ | refine List.mem_append_right _ ?_ | assumption)) (fillW_get l (by omega)))) ?_
      refine JW.val rfl rfl (.none rfl) (Ev.assign rfl) ?_
      refine JW.val rfl rfl (.none rfl) (Ev.assign rfl) ?_
      refine JW.nilQ ?_
      refine JQ.thenN ?_
      -- region 10
      refine JC.regionT 29 (by kernel_rfl) (by kernel_rfl) (List.take_append_drop 29 _).symm rfl ?_
      refine JW.val rfl rfl (.none rfl) (Ev.move rfl) ?_
      refine JW.val rfl rfl (.none rfl) (Ev.move rfl) ?_
      refine JW.val rfl rfl (.none rfl) (Ev.bin rfl rfl (sub_i64 (by omega))) ?_
      refine JW.val rfl rfl (.none rfl) (Ev.idxB1 rfl rfl Tryd.underlying90 Tryd.sizeOf77 (k := k - 16) (by omega) (by omega)) ?_
      refine JW.val rfl rfl (.none rfl) (Ev.load1 rfl Tryd.underlying77 rfl (Rd.own (by repeat (first | exact List.Mem.head _ | refine List.Mem.tail _ ?_ | refine List.mem_append_right _ ?_ | assumption)) (fillW_get l (by omega)))) ?_
      refine JW.val rfl rfl (.none rfl) (Ev.move rfl) ?_
      refine JW.call rfl (.none rfl) rfl Tryd.call57 (fun w1 hw1 => right_any _ 7 (by decide) (by decide) w1) ?_
      refine JW.val rfl rfl (.none rfl) (Ev.move rfl) ?_
      refine JW.call rfl (.none rfl) rfl Tryd.call57 (fun w1 hw1 => right_any _ 18 (by decide) (by decide) w1) ?_
      refine JW.val rfl rfl (.none rfl) (Ev.bin rfl rfl xor_u32) ?_
      refine JW.val rfl rfl (.none rfl) (Ev.move rfl) ?_
      refine JW.val rfl rfl (.none rfl) (Ev.bin rfl rfl (shr_u32 (n := 3) (by decide))) ?_
      refine JW.val rfl rfl (.none rfl) (Ev.bin rfl rfl xor_u32) ?_
      refine JW.val rfl rfl (.none rfl) (Ev.bin rfl rfl add_u32) ?_
      refine JW.val rfl rfl (.none rfl) (Ev.move rfl) ?_
      refine JW.val rfl rfl (.none rfl) (Ev.bin rfl rfl (sub_i64 (by omega))) ?_
      refine JW.val rfl rfl (.none rfl) (Ev.idxB1 rfl rfl Tryd.underlying90 Tryd.sizeOf77 (k := k - 7) (by omega) (by omega)) ?_
      refine JW.val rfl rfl (.none rfl) (Ev.load1 rfl Tryd.underlying77 rfl (Rd.own (by repeat (first | exact List.Mem.head _ | refine List.Mem.tail _ ?_ | refine List.mem_append_right _ ?_ | assumption)) (fillW_get l (by omega)))) ?_
      refine JW.val rfl rfl (.none rfl) (Ev.bin rfl rfl add_u32) ?_
      refine JW.val rfl rfl (.none rfl) (Ev.move rfl) ?_
      refine JW.call rfl (.none rfl) rfl Tryd.call57 (fun w1 hw1 => right_any _ 17 (by decide) (by decide) w1) ?_
      refine JW.val rfl rfl (.none rfl) (Ev.move rfl) ?_
      refine JW.call rfl (.none rfl) rfl Tryd.call57 (fun w1 hw1 => right_any _ 19 (by decide) (by decide) w1) ?_
      refine JW.val rfl rfl (.none rfl) (Ev.bin rfl rfl xor_u32) ?_
      refine JW.val rfl rfl (.none rfl) (Ev.move rfl) ?_
      refine JW.val rfl rfl (.none rfl) (Ev.bin rfl rfl (shr_u32 (n := 10) (by decide))) ?_
      refine JW.val rfl rfl (.none rfl) (Ev.bin rfl rfl xor_u32) ?_
      refine JW.val rfl rfl (.none rfl) (Ev.bin rfl rfl add_u32) ?_
      refine JW.val rfl rfl (.none rfl) (Ev.idxB1 rfl rfl Tryd.underlying90 Tryd.sizeOf77 (k := k) rfl (by omega)) ?_
      refine JW.tail ?_
      refine JL.sto rfl rfl (.none rfl) (Es.store1 rfl rfl Tryd.sizeOf77 rfl rfl (by repeat (first | exact .here | apply Upd.there | apply Upd.left)) (by rw [arr32_size, fillW_length _ (by omega)]; omega)) ?_
      refine JL.nil ?_
      refine JQ.blockN ?_
      refine JQ.thenN ?_
      -- region 8
      refine JC.region ?_
      refine JL.val rfl rfl rfl (.none rfl) (Ev.move rfl) ?_
      refine JL.val rfl rfl rfl (.none rfl) (Ev.bin rfl rfl (add_i64 (by omega))) ?_
      refine JL.val rfl rfl rfl (.none rfl) (Ev.assign rfl) ?_
      refine JL.nil ?_
      refine JQ.reH .here (congrArg (fun c => Obj.cells c 90 (0, 0)) (fillW_set l (by omega) (by rw [if_neg (by omega)]; rfl))) ?_
      refine JQ.loopN (k + 1) ?_ ?_ ?_ ?_
      · exact Keeps.get (by repeat (first | exact Keeps.nil | refine Keeps.cons rfl ?_))
      · first | exact Sub.all | exact Sub.of_cnt (fun a => by (try dsimp only); simp only [cntA]; omega) | repeat (first | exact Sub.nil | refine Sub.cons (by first | exact .here | exact .there .here | exact .there (.there .here) | exact .there (.there (.there .here)) | exact .there (.there (.there (.there .here)))) ?_ | exact Sub.all)
      · omega
      · omega
    · -- t19 False
      replace hc2 := of_decide_eq_false hc2
      refine JC.exit ?_
      refine JQ.thenE ?_
      refine JQ.thenE ?_
      refine JQ.blockE ?_
      refine JQ.thenN ?_
      refine JC.seq ?_
      -- region 11
      refine JC.region ?_
      refine JL.val rfl rfl rfl (.none rfl) (Ev.loadB rfl (by repeat (first | exact List.Mem.head _ | refine List.Mem.tail _ ?_ | refine List.mem_append_right _ ?_ | assumption)) Tryd.underlying90 rfl Tryd.sizeOf90 (by rw [arr32_size, fillW_length _ (by omega)])) ?_
      refine JL.sto rfl rfl (.none rfl) (Es.storeA rfl rfl Tryd.sizeOf90 (by repeat (first | exact .here | apply Upd.there | apply Upd.left)) (by rw [arr32_size, fillW_length _ (by omega)]) (by rw [arr32_size, fillW_length _ (by omega)]) (arr32_one _)) ?_
      refine JL.nil ?_
      refine JQ.thenN ?_
      refine JC.ret ?_
      obtain rfl : k = 64 := by omega
      refine JQ.reH .here (congrArg (fun c => Obj.cells c 90 (0, 0)) (congrArg arr32 (fillW_all l))) ?_
      refine JQ.end1 (H' := []) (.inl rfl) rfl (.agg rfl (by repeat (first | exact List.Mem.head _ | refine List.Mem.tail _ ?_ | refine List.mem_append_right _ ?_ | assumption)) Tryd.underlying90 rfl Tryd.sizeOf90 (by rw [arr32_size, sched_length])) ?_ ?_
      · first | exact Sub.all | exact Sub.of_cnt (fun a => by (try dsimp only); simp only [cntA]; omega) | repeat (first | exact Sub.nil | refine Sub.cons (by first | exact .here | exact .there .here | exact .there (.there .here) | exact .there (.there (.there .here)) | exact .there (.there (.there (.there .here)))) ?_ | exact Sub.all)
      · exact rfl

end Go.Proofs.YtebinlinhmohbaaDoor
