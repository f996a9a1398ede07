/-
  Several small texts in one: Dig1, Dig2, Dig3, Ref1, Ref2, Dig4, Ref3.
-/
import Derived.Test.YtjjoenbighmfoaaDoorProg
import Derived.Test.YtjjoenbighmfoaaDoorPackAUq
import Derived.KernelRfl
namespace Go.Proofs.YtjjoenbighmfoaaDoor
open Go Go.RowKit
set_option maxRecDepth 100000

theorem and31 {P : Program} {T : TypeId} {n : Nat} (hn : 0 < n) (hn1 : n < 32) : Bin P .and T (.int .u64 (IntKind.u64.wrap (-(n : Int)))) (.int .u64 31) (.int .u64 ((32 - n : Nat) : Int)) := Bin.int fun w => by
  have h1 : IntKind.u64.wrap (-(n : Int)) = ((18446744073709551616 - n : Nat) : Int) := by rw [IntKind.wrap_u64]; omega
  rw [h1]
  have h2 : (BitVec.ofInt 64 ((18446744073709551616 - n : Nat) : Int) &&& BitVec.ofInt 64 31).toNat = 32 - n := by
    rw [BitVec.toNat_and, BitVec.toNat_ofInt, BitVec.toNat_ofInt]
    have e1 : (((18446744073709551616 - n : Nat) : Int) % ((2 ^ 64 : Nat) : Int)).toNat = 18446744073709551616 - n := by omega
    have e2 : ((31 : Int) % ((2 ^ 64 : Nat) : Int)).toNat = 2 ^ 5 - 1 := by decide
    rw [e1, e2, Nat.and_two_pow_sub_one_eq_mod]
    omega
  simp only [binOp, Op.intBits]
  exact congrArg (fun m => Result.ok (Value.int IntKind.u64 m) w) ((congrArg (fun m : Nat => IntKind.u64.wrap (m : Int)) h2).trans (wrap_u64n _ (by omega)))
theorem sub32 {P : Program} {T : TypeId} {n : Nat} (hn : 0 < n) (hn1 : n < 32) : Bin P .sub T (.int .u64 32) (.int .u64 ((32 - n : Nat) : Int)) (.int .u64 (n : Int)) := Bin.int fun w => by
  have : IntKind.u64.wrap (32 - ((32 - n : Nat) : Int)) = (n : Int) := by rw [IntKind.wrap_u64]; omega
  simp only [binOp, Op.intArith, this]; rfl

theorem word_any (a : Addr) (len cap : Nat) (l : List UInt8) (w : World) (hm : BMem w a l) (hl : l.length = len) (h4 : 4 ≤ len) :
    Calls Tryd.prog 83 #[.slice (some a) len cap] w (Ret w (fun v _ => v = u32 (beWord l 0))) := by
  refine enter (vs := [.slice (some a) len cap]) Tryd.func83 rfl Tryd.ntmps83 rfl ?_
  refine JC.seq ?_
  -- region 0
  refine JC.region ?_
  refine JL.val rfl rfl rfl (.none rfl) (Ev.assign rfl) ?_
  refine JL.nil ?_
  refine JQ.thenN ?_
  refine JC.seq ?_
  -- region 1
  refine JC.regionQ (by kernel_rfl) (by kernel_rfl) ?_
  refine JW.val rfl rfl (.none rfl) (Ev.move rfl) ?_
  refine JW.val rfl rfl (.none rfl) (Ev.idxS1 (k := 0) rfl rfl Tryd.underlying88 Tryd.sizeOf5 rfl (by omega)) ?_
  refine JW.val rfl rfl (.none rfl) (Ev.load1 rfl Tryd.underlying5 rfl (Rd.old (hm.at (k := 0) (by omega)))) ?_
  refine JW.val rfl rfl (.none rfl) (Ev.conv rfl (conv_u8_u32 Tryd.underlying5 Tryd.underlying41)) ?_
  refine JW.val rfl rfl (.none rfl) (Ev.bin rfl rfl (shl_u32 (n := 24) (by decide))) ?_
  refine JW.val rfl rfl (.none rfl) (Ev.move rfl) ?_
  refine JW.val rfl rfl (.none rfl) (Ev.idxS1 (k := 1) rfl rfl Tryd.underlying88 Tryd.sizeOf5 rfl (by omega)) ?_
  refine JW.val rfl rfl (.none rfl) (Ev.load1 rfl Tryd.underlying5 rfl (Rd.old (hm.at (k := 1) (by omega)))) ?_
  refine JW.val rfl rfl (.none rfl) (Ev.conv rfl (conv_u8_u32 Tryd.underlying5 Tryd.underlying41)) ?_
  refine JW.val rfl rfl (.none rfl) (Ev.bin rfl rfl (shl_u32 (n := 16) (by decide))) ?_
  refine JW.val rfl rfl (.none rfl) (Ev.bin rfl rfl or_u32) ?_
  refine JW.val rfl rfl (.none rfl) (Ev.move rfl) ?_
  refine JW.val rfl rfl (.none rfl) (Ev.idxS1 (k := 2) rfl rfl Tryd.underlying88 Tryd.sizeOf5 rfl (by omega)) ?_
  refine JW.val rfl rfl (.none rfl) (Ev.load1 rfl Tryd.underlying5 rfl (Rd.old (hm.at (k := 2) (by omega)))) ?_
  refine JW.val rfl rfl (.none rfl) (Ev.conv rfl (conv_u8_u32 Tryd.underlying5 Tryd.underlying41)) ?_
  refine JW.val rfl rfl (.none rfl) (Ev.bin rfl rfl (shl_u32 (n := 8) (by decide))) ?_
  refine JW.val rfl rfl (.none rfl) (Ev.bin rfl rfl or_u32) ?_
  refine JW.val rfl rfl (.none rfl) (Ev.move rfl) ?_
  refine JW.val rfl rfl (.none rfl) (Ev.idxS1 (k := 3) rfl rfl Tryd.underlying88 Tryd.sizeOf5 rfl (by omega)) ?_
  refine JW.val rfl rfl (.none rfl) (Ev.load1 rfl Tryd.underlying5 rfl (Rd.old (hm.at (k := 3) (by omega)))) ?_
  refine JW.val rfl rfl (.none rfl) (Ev.conv rfl (conv_u8_u32 Tryd.underlying5 Tryd.underlying41)) ?_
  refine JW.val rfl rfl (.none rfl) (Ev.bin rfl rfl or_u32) ?_
  refine JW.val rfl rfl (.none rfl) (Ev.assign rfl) ?_
  refine JW.nilQ ?_
  refine JQ.thenN ?_
  refine JC.ret ?_
  refine JQ.end1 (H' := []) (.inl rfl) rfl (.tmp rfl) ?_ ?_
  · first | exact Sub.all | exact Sub.of_cnt (fun a => by (try dsimp only); simp only [cntA]; omega) | repeat (first | exact Sub.nil | refine Sub.cons (by first | exact .here | exact .there .here | exact .there (.there .here) | exact .there (.there (.there .here)) | exact .there (.there (.there (.there .here)))) ?_ | exact Sub.all)
  · exact rfl

theorem rot_any (x : UInt32) (n : Nat) (hn : 0 < n) (hn1 : n < 32) (w : World) :
    Calls Tryd.prog 84 #[u32 x, .int .i64 (-(n : Int))] w (Ret w (fun v _ => v = u32 (rotr x n))) := by
  refine enter (vs := [u32 x, .int .i64 (-(n : Int))]) Tryd.func84 rfl Tryd.ntmps84 rfl ?_
  refine JC.seq ?_
  -- region 0
  refine JC.region ?_
  refine JL.val rfl rfl rfl (.none rfl) (Ev.assign rfl) ?_
  refine JL.nil ?_
  refine JQ.thenN ?_
  refine JC.seq ?_
  -- region 1
  refine JC.region ?_
  refine JL.val rfl rfl rfl (.none rfl) (Ev.move rfl) ?_
  refine JL.val rfl rfl rfl (.none rfl) (Ev.conv rfl (conv_int Tryd.underlying3 Tryd.underlying69)) ?_
  refine JL.val rfl rfl rfl (.none rfl) (Ev.bin rfl rfl (and31 hn hn1)) ?_
  refine JL.val rfl rfl rfl (.none rfl) (Ev.assign rfl) ?_
  refine JL.nil ?_
  refine JQ.thenN ?_
  refine JC.seq ?_
  -- region 2
  refine JC.region ?_
  refine JL.val rfl rfl rfl (.none rfl) (Ev.move rfl) ?_
  refine JL.val rfl rfl rfl (.none rfl) (Ev.move rfl) ?_
  refine JL.val rfl rfl rfl (.none rfl) (Ev.bin rfl rfl (shl_u32 (n := 32 - n) (by omega))) ?_
  refine JL.val rfl rfl rfl (.none rfl) (Ev.move rfl) ?_
  refine JL.val rfl rfl rfl (.none rfl) (Ev.move rfl) ?_
  refine JL.val rfl rfl rfl (.none rfl) (Ev.bin rfl rfl (sub32 hn hn1)) ?_
  refine JL.val rfl rfl rfl (.none rfl) (Ev.bin rfl rfl (shr_u32 (n := n) (by omega))) ?_
  refine JL.val rfl rfl rfl (.none rfl) (Ev.bin rfl rfl or_u32) ?_
  refine JL.val rfl rfl rfl (.none rfl) (Ev.assign rfl) ?_
  refine JL.nil ?_
  refine JQ.thenN ?_
  refine JC.ret ?_
  refine JQ.end1 (H' := []) (.inl rfl) rfl (.tmp rfl) ?_ ?_
  · first | exact Sub.all | exact Sub.of_cnt (fun a => by (try dsimp only); simp only [cntA]; omega) | repeat (first | exact Sub.nil | refine Sub.cons (by first | exact .here | exact .there .here | exact .there (.there .here) | exact .there (.there (.there .here)) | exact .there (.there (.there (.there .here)))) ?_ | exact Sub.all)
  · rw [rotr, UInt32.or_comm]

theorem right_any (x : UInt32) (n : Nat) (hn : 0 < n) (hn1 : n < 32) (w : World) :
    Calls Tryd.prog 82 #[u32 x, .int .i64 (n : Int)] w (Ret w (fun v _ => v = u32 (rotr x n))) := by
  refine enter (vs := [u32 x, .int .i64 (n : Int)]) Tryd.func82 rfl Tryd.ntmps82 rfl ?_
  refine JC.seq ?_
  -- region 0
  refine JC.region ?_
  refine JL.val rfl rfl rfl (.none rfl) (Ev.assign rfl) ?_
  refine JL.nil ?_
  refine JQ.thenN ?_
  refine JC.seq ?_
  -- region 1
  refine JC.region ?_
  refine JL.val rfl rfl rfl (.none rfl) (Ev.move rfl) ?_
  refine JL.val rfl rfl rfl (.none rfl) (Ev.move rfl) ?_
  refine JL.val rfl rfl rfl (.none rfl) (Ev.neg64 rfl (by omega)) ?_
  refine JL.callV rfl (.none rfl) rfl Tryd.call84 (fun w1 hw1 => rot_any x n hn hn1 w1) ?_
  refine JL.val rfl rfl rfl (.none rfl) (Ev.assign rfl) ?_
  refine JL.nil ?_
  refine JQ.thenN ?_
  refine JC.ret ?_
  refine JQ.end1 (H' := []) (.inl rfl) rfl (.tmp rfl) ?_ ?_
  · first | exact Sub.all | exact Sub.of_cnt (fun a => by (try dsimp only); simp only [cntA]; omega) | repeat (first | exact Sub.nil | refine Sub.cons (by first | exact .here | exact .there .here | exact .there (.there .here) | exact .there (.there (.there .here)) | exact .there (.there (.there (.there .here)))) ?_ | exact Sub.all)
  · exact rfl

theorem spread_any (a : Addr) (cap : Nat) (l : List UInt8) (w : World) (hm : BMem w a l) (hl : l.length = 64) (hc : 64 ≤ cap) :
    Calls Tryd.prog 81 #[.slice (some a) 64 cap] w (Ret w (fun v _ => v = .agg (arr32 (sched l 64)))) := by
  refine enter (vs := [.slice (some a) 64 cap]) Tryd.func81 rfl Tryd.ntmps81 rfl ?_
  refine JC.seq ?_
  -- region 0
  refine JC.region ?_
  refine JL.new rfl rfl rfl (.none rfl) (En.allocZ (cs := arr32 (List.replicate 64 0)) Tryd.zeroValue116 rfl) (fun b2 hb2 => ?_)
  refine JL.nil ?_
  refine JQ.thenN ?_
  refine JC.seq ?_
  refine JC.seq ?_
  -- region 1
  refine JC.region ?_
  refine JL.val rfl rfl rfl (.none rfl) (Ev.move rfl) ?_
  refine JL.nil ?_
  refine JQ.thenN ?_
  refine JC.block ?_
  refine JC.reH (o' := .cells (arr32 (fillW l 0)) 116 (0, 0)) .here rfl ?_
  refine JC.loop (X := Nat)
    (fun k => [(0, .slice (some a) 64 cap), (2, .pointer (some ⟨b2, 0, none⟩)), (7, .int .i64 (k : Int))])
    (fun k => [(b2, .cells (arr32 (fillW l k)) 116 (0, 0))])
    (fun k => k ≤ 16)
    (fun k => 16 - k) 0 ?_ ?_ ?_ ?_
  · exact Keeps.get (by repeat (first | exact Keeps.nil | refine Keeps.cons rfl ?_))
  · first | exact Sub.all | exact Sub.of_cnt (fun a => by (try dsimp only); simp only [cntA]; omega) | repeat (first | exact Sub.nil | refine Sub.cons (by first | exact .here | exact .there .here | exact .there (.there .here) | exact .there (.there (.there .here)) | exact .there (.there (.there (.there .here)))) ?_ | exact Sub.all)
  · omega
  rintro k hk
  refine JC.seq ?_
  -- region 2
  refine JC.region ?_
  refine JL.val rfl rfl rfl (.none rfl) (Ev.bin rfl rfl lss_int) ?_
  refine JL.nil ?_
  refine JQ.thenN ?_
  refine JC.seq ?_
  refine JC.cond rfl (fun hc1 => ?_) (fun hc1 => ?_)
  · -- t8 True
    replace hc1 := of_decide_eq_true hc1
    refine JC.skip ?_
    refine JQ.thenN ?_
    refine JC.seq ?_
    refine JC.block ?_
    refine JC.seq ?_
    -- region 3
    refine JC.region ?_
    refine JL.val rfl rfl rfl (.none rfl) (Ev.move rfl) ?_
    refine JL.val rfl rfl rfl (.none rfl) (Ev.assign rfl) ?_
    refine JL.nil ?_
    refine JQ.thenN ?_
    -- region 4
    refine JC.region ?_
    refine JL.val rfl rfl rfl (.none rfl) (Ev.move rfl) ?_
    refine JL.val rfl rfl rfl (.none rfl) (Ev.move rfl) ?_
    refine JL.val rfl rfl rfl (.none rfl) (Ev.move rfl) ?_
    refine JL.val rfl rfl rfl (.none rfl) (Ev.bin rfl rfl (mul_i64 (by omega))) ?_
    refine JL.val rfl rfl rfl (.none rfl) (Ev.sliceLo rfl rfl Tryd.underlying88 Tryd.sizeOf5 (l := 4 * k) (by omega) (by omega)) ?_
    refine JL.re (d := 14) rfl (sub3_some (by omega)) ?_
    refine JL.callV rfl (.none rfl) rfl Tryd.call83 (fun w1 hw1 => word_any (a.add (4 * k)) (64 - 4 * k) (cap - 4 * k) (l.drop (4 * k)) w1 ((hm.drop _).old hw1) (by simp [hl]) (by omega)) ?_
    refine JL.val rfl rfl rfl (.none rfl) (Ev.idxB1 rfl rfl Tryd.underlying116 Tryd.sizeOf41 rfl (by omega)) ?_
    refine JL.sto rfl rfl (.none rfl) (Es.store1 rfl rfl Tryd.sizeOf41 rfl rfl (by repeat (first | exact .here | apply Upd.there | apply Upd.left)) (by rw [arr32_size, fillW_length _ (by omega)]; omega)) ?_
    refine JL.nil ?_
    refine JQ.blockN ?_
    refine JQ.thenN ?_
    -- region 5
    refine JC.region ?_
    refine JL.val rfl rfl rfl (.none rfl) (Ev.bin rfl rfl (add_i64 (by omega))) ?_
    refine JL.val rfl rfl rfl (.none rfl) (Ev.move rfl) ?_
    refine JL.nil ?_
    refine JQ.reH .here (congrArg (fun c => Obj.cells c 116 (0, 0)) (fillW_set l (by omega) (by rw [if_pos (by omega), beWord_drop]))) ?_
    refine JQ.loopN (k + 1) ?_ ?_ ?_ ?_
    · exact Keeps.get (by repeat (first | exact Keeps.nil | refine Keeps.cons rfl ?_))
    · first | exact Sub.all | exact Sub.of_cnt (fun a => by (try dsimp only); simp only [cntA]; omega) | repeat (first | exact Sub.nil | refine Sub.cons (by first | exact .here | exact .there .here | exact .there (.there .here) | exact .there (.there (.there .here)) | exact .there (.there (.there (.there .here)))) ?_ | exact Sub.all)
    · omega
    · omega
  · -- t8 False
    replace hc1 := of_decide_eq_false hc1
    refine JC.exit ?_
    refine JQ.thenE ?_
    refine JQ.thenE ?_
    refine JQ.blockE ?_
    refine JQ.thenN ?_
    refine JC.seq ?_
    refine JC.seq ?_
    -- region 6
    refine JC.region ?_
    refine JL.val rfl rfl rfl (.none rfl) (Ev.assign rfl) ?_
    refine JL.nil ?_
    refine JQ.thenN ?_
    refine JC.block ?_
    obtain rfl : k = 16 := by omega
    refine JC.loop (X := Nat)
      (fun k => [(2, .pointer (some ⟨b2, 0, none⟩)), (4, .int .i64 (k : Int))])
      (fun k => [(b2, .cells (arr32 (fillW l k)) 116 (0, 0))])
      (fun k => 16 ≤ k ∧ k ≤ 64)
      (fun k => 64 - k) 16 ?_ ?_ ?_ ?_
    · exact Keeps.get (by repeat (first | exact Keeps.nil | refine Keeps.cons rfl ?_))
    · first | exact Sub.all | exact Sub.of_cnt (fun a => by (try dsimp only); simp only [cntA]; omega) | repeat (first | exact Sub.nil | refine Sub.cons (by first | exact .here | exact .there .here | exact .there (.there .here) | exact .there (.there (.there .here)) | exact .there (.there (.there (.there .here)))) ?_ | exact Sub.all)
    · omega
    rintro k hk
    refine JC.seq ?_
    refine JC.seq ?_
    -- region 7
    refine JC.region ?_
    refine JL.val rfl rfl rfl (.none rfl) (Ev.move rfl) ?_
    refine JL.val rfl rfl rfl (.none rfl) (Ev.bin rfl rfl lss_int) ?_
    refine JL.nil ?_
    refine JQ.thenN ?_
    refine JC.cond rfl (fun hc2 => ?_) (fun hc2 => ?_)
    · -- t19 True
      replace hc2 := of_decide_eq_true hc2
      refine JC.skip ?_
      refine JQ.thenN ?_
      refine JC.seq ?_
      refine JC.block ?_
      refine JC.seq ?_
      -- region 9
      refine JC.regionQ (by kernel_rfl) (by kernel_rfl) ?_
      refine JW.val rfl rfl (.none rfl) (Ev.move rfl) ?_
      refine JW.val rfl rfl (.none rfl) (Ev.bin rfl rfl (sub_i64 (by omega))) ?_
      refine JW.val rfl rfl (.none rfl) (Ev.idxB1 rfl rfl Tryd.underlying116 Tryd.sizeOf41 (k := k - 15) (by omega) (by omega)) ?_
      refine JW.val rfl rfl (.none rfl) (Ev.load1 rfl Tryd.underlying41 rfl (Rd.own (by repeat (first | exact List.Mem.head _ | refine List.Mem.tail _ ?_ | refine List.mem_append_right _ ?_ | assumption)) (fillW_get l (by omega)))) ?_
      refine JW.val rfl rfl (.none rfl) (Ev.move rfl) ?_
      refine JW.val rfl rfl (.none rfl) (Ev.bin rfl rfl (sub_i64 (by omega))) ?_
      refine JW.val rfl rfl (.none rfl) (Ev.idxB1 rfl rfl Tryd.underlying116 Tryd.sizeOf41 (k := k - 2) (by omega) (by omega)) ?_
      refine JW.val rfl rfl (.none rfl) (Ev.load1 rfl Tryd.underlying41 rfl (Rd.own (by repeat (first | exact List.Mem.head _ | refine List.Mem.tail _ ?_ | refine List.mem_append_right _ ?_ | assumption)) (fillW_get l (by omega)))) ?_
      refine JW.val rfl rfl (.none rfl) (Ev.assign rfl) ?_
      refine JW.val rfl rfl (.none rfl) (Ev.assign rfl) ?_
      refine JW.nilQ ?_
      refine JQ.thenN ?_
      -- region 10
      refine JC.regionT 29 (by kernel_rfl) (by kernel_rfl) (List.take_append_drop 29 _).symm rfl ?_
      refine JW.val rfl rfl (.none rfl) (Ev.move rfl) ?_
      refine JW.val rfl rfl (.none rfl) (Ev.move rfl) ?_
      refine JW.val rfl rfl (.none rfl) (Ev.bin rfl rfl (sub_i64 (by omega))) ?_
      refine JW.val rfl rfl (.none rfl) (Ev.idxB1 rfl rfl Tryd.underlying116 Tryd.sizeOf41 (k := k - 16) (by omega) (by omega)) ?_
      refine JW.val rfl rfl (.none rfl) (Ev.load1 rfl Tryd.underlying41 rfl (Rd.own (by repeat (first | exact List.Mem.head _ | refine List.Mem.tail _ ?_ | refine List.mem_append_right _ ?_ | assumption)) (fillW_get l (by omega)))) ?_
      refine JW.val rfl rfl (.none rfl) (Ev.move rfl) ?_
      refine JW.call rfl (.none rfl) rfl Tryd.call82 (fun w1 hw1 => right_any _ 7 (by decide) (by decide) w1) ?_
      refine JW.val rfl rfl (.none rfl) (Ev.move rfl) ?_
      refine JW.call rfl (.none rfl) rfl Tryd.call82 (fun w1 hw1 => right_any _ 18 (by decide) (by decide) w1) ?_
      refine JW.val rfl rfl (.none rfl) (Ev.bin rfl rfl xor_u32) ?_
      refine JW.val rfl rfl (.none rfl) (Ev.move rfl) ?_
      refine JW.val rfl rfl (.none rfl) (Ev.bin rfl rfl (shr_u32 (n := 3) (by decide))) ?_
      refine JW.val rfl rfl (.none rfl) (Ev.bin rfl rfl xor_u32) ?_
      refine JW.val rfl rfl (.none rfl) (Ev.bin rfl rfl add_u32) ?_
      refine JW.val rfl rfl (.none rfl) (Ev.move rfl) ?_
      refine JW.val rfl rfl (.none rfl) (Ev.bin rfl rfl (sub_i64 (by omega))) ?_
      refine JW.val rfl rfl (.none rfl) (Ev.idxB1 rfl rfl Tryd.underlying116 Tryd.sizeOf41 (k := k - 7) (by omega) (by omega)) ?_
      refine JW.val rfl rfl (.none rfl) (Ev.load1 rfl Tryd.underlying41 rfl (Rd.own (by repeat (first | exact List.Mem.head _ | refine List.Mem.tail _ ?_ | refine List.mem_append_right _ ?_ | assumption)) (fillW_get l (by omega)))) ?_
      refine JW.val rfl rfl (.none rfl) (Ev.bin rfl rfl add_u32) ?_
      refine JW.val rfl rfl (.none rfl) (Ev.move rfl) ?_
      refine JW.call rfl (.none rfl) rfl Tryd.call82 (fun w1 hw1 => right_any _ 17 (by decide) (by decide) w1) ?_
      refine JW.val rfl rfl (.none rfl) (Ev.move rfl) ?_
      refine JW.call rfl (.none rfl) rfl Tryd.call82 (fun w1 hw1 => right_any _ 19 (by decide) (by decide) w1) ?_
      refine JW.val rfl rfl (.none rfl) (Ev.bin rfl rfl xor_u32) ?_
      refine JW.val rfl rfl (.none rfl) (Ev.move rfl) ?_
      refine JW.val rfl rfl (.none rfl) (Ev.bin rfl rfl (shr_u32 (n := 10) (by decide))) ?_
      refine JW.val rfl rfl (.none rfl) (Ev.bin rfl rfl xor_u32) ?_
      refine JW.val rfl rfl (.none rfl) (Ev.bin rfl rfl add_u32) ?_
      refine JW.val rfl rfl (.none rfl) (Ev.idxB1 rfl rfl Tryd.underlying116 Tryd.sizeOf41 (k := k) rfl (by omega)) ?_
      refine JW.tail ?_
      refine JL.sto rfl rfl (.none rfl) (Es.store1 rfl rfl Tryd.sizeOf41 rfl rfl (by repeat (first | exact .here | apply Upd.there | apply Upd.left)) (by rw [arr32_size, fillW_length _ (by omega)]; omega)) ?_
      refine JL.nil ?_
      refine JQ.blockN ?_
      refine JQ.thenN ?_
      -- region 8
      refine JC.region ?_
      refine JL.val rfl rfl rfl (.none rfl) (Ev.move rfl) ?_
      refine JL.val rfl rfl rfl (.none rfl) (Ev.bin rfl rfl (add_i64 (by omega))) ?_
      refine JL.val rfl rfl rfl (.none rfl) (Ev.assign rfl) ?_
      refine JL.nil ?_
      refine JQ.reH .here (congrArg (fun c => Obj.cells c 116 (0, 0)) (fillW_set l (by omega) (by rw [if_neg (by omega)]; rfl))) ?_
      refine JQ.loopN (k + 1) ?_ ?_ ?_ ?_
      · exact Keeps.get (by repeat (first | exact Keeps.nil | refine Keeps.cons rfl ?_))
      · first | exact Sub.all | exact Sub.of_cnt (fun a => by (try dsimp only); simp only [cntA]; omega) | repeat (first | exact Sub.nil | refine Sub.cons (by first | exact .here | exact .there .here | exact .there (.there .here) | exact .there (.there (.there .here)) | exact .there (.there (.there (.there .here)))) ?_ | exact Sub.all)
      · omega
      · omega
    · -- t19 False
      replace hc2 := of_decide_eq_false hc2
      refine JC.exit ?_
      refine JQ.thenE ?_
      refine JQ.thenE ?_
      refine JQ.blockE ?_
      refine JQ.thenN ?_
      refine JC.seq ?_
      -- region 11
      refine JC.region ?_
      refine JL.val rfl rfl rfl (.none rfl) (Ev.loadB rfl (by repeat (first | exact List.Mem.head _ | refine List.Mem.tail _ ?_ | refine List.mem_append_right _ ?_ | assumption)) Tryd.underlying116 rfl Tryd.sizeOf116 (by rw [arr32_size, fillW_length _ (by omega)])) ?_
      refine JL.sto rfl rfl (.none rfl) (Es.storeA rfl rfl Tryd.sizeOf116 (by repeat (first | exact .here | apply Upd.there | apply Upd.left)) (by rw [arr32_size, fillW_length _ (by omega)]) (by rw [arr32_size, fillW_length _ (by omega)]) (arr32_one _)) ?_
      refine JL.nil ?_
      refine JQ.thenN ?_
      refine JC.ret ?_
      obtain rfl : k = 64 := by omega
      refine JQ.reH .here (congrArg (fun c => Obj.cells c 116 (0, 0)) (congrArg arr32 (fillW_all l))) ?_
      refine JQ.end1 (H' := []) (.inl rfl) rfl (.agg rfl (by repeat (first | exact List.Mem.head _ | refine List.Mem.tail _ ?_ | refine List.mem_append_right _ ?_ | assumption)) Tryd.underlying116 rfl Tryd.sizeOf116 (by rw [arr32_size, sched_length])) ?_ ?_
      · first | exact Sub.all | exact Sub.of_cnt (fun a => by (try dsimp only); simp only [cntA]; omega) | repeat (first | exact Sub.nil | refine Sub.cons (by first | exact .here | exact .there .here | exact .there (.there .here) | exact .there (.there (.there .here)) | exact .there (.there (.there (.there .here)))) ?_ | exact Sub.all)
      · exact rfl

end Go.Proofs.YtjjoenbighmfoaaDoor
namespace Go.Proofs.YtjjoenbighmfoaaDoor
open Go Go.RowKit
set_option maxRecDepth 100000

theorem step_any (s : St) (a : Addr) (cap : Nat) (l : List UInt8) (w : World) (hk : KMem 1 w) (hm : BMem w a l) (hl : l.length = 64) (hc : 64 ≤ cap) :
    Calls Tryd.prog 76 #[.agg (arr32 s.l), .slice (some a) 64 cap] w (Ret w (fun v _ => v = .agg (arr32 (comp s l).l))) := by
  refine enter (vs := [.agg (arr32 s.l), .slice (some a) 64 cap]) Tryd.func76 rfl Tryd.ntmps76 rfl ?_
  refine JC.seq ?_
  -- region 0
  refine JC.region ?_
  refine JL.new rfl rfl rfl (.none rfl) (En.boxA rfl) (fun b2 hb2 => ?_)
  refine JL.new rfl rfl rfl (.none rfl) (En.allocZ (cs := arr32 (List.replicate 8 0)) Tryd.zeroValue110 rfl) (fun b4 hb4 => ?_)
  refine JL.nil ?_
  refine JQ.reH (o' := .cells (arr32 (List.replicate 8 0)) 110 (0, 0)) .here rfl ?_
  refine JQ.thenN ?_
  refine JC.seq ?_
  -- region 1
  refine JC.cut (X := Nat × Nat) (fun ⟨b5, b6⟩ => [(2, .pointer (some ⟨b2, 0, none⟩)), (4, .pointer (some ⟨b4, 0, none⟩)), (5, .pointer (some ⟨b5, 0, none⟩)), (6, .pointer (some ⟨b6, 0, none⟩))]) (fun ⟨b5, b6⟩ => [(b6, .cells (arr32 s.l) 110 (0, 0)), (b5, .cells (arr32 (sched l 64)) 116 (0, 0)), (b4, .cells (arr32 (List.replicate 8 0)) 110 (0, 0)), (b2, .cells (arr32 s.l) 110 (0, 0))]) ?_ ?_
  · refine JC.regionA (by kernel_rfl) ?_
    refine JA.take 0 rfl rfl rfl rfl (by kernel_rfl) (by kernel_rfl) (by kernel_rfl) (fun _ _ _ h => absurd h.1 (by simp)) (fun _ _ => rfl) (.none rfl) (fun _ => (Ev.move rfl)) ?_
    refine JA.branch [1, 2, 3, 4] (by kernel_rfl) rfl ?_
    refine JAll.cons rfl ?_ ?_
    · -- 1
      refine JO.callV rfl (.none rfl) rfl Tryd.call81 (fun w1 hw1 => spread_any a cap l w1 (hm.old hw1) hl hc) ?_
      refine JA.branch [2, 3, 4] (by kernel_rfl) rfl ?_
      refine JAll.cons rfl ?_ ?_
      · -- 2
        refine JO.val rfl rfl rfl (.none rfl) (Ev.loadB rfl (by repeat (first | exact List.Mem.head _ | refine List.Mem.tail _ ?_ | refine List.mem_append_right _ ?_ | assumption)) Tryd.underlying110 rfl Tryd.sizeOf110 (by first | rfl | exact dig_size _ | (rw [arr8_size]; first | exact sha_length _ | exact shaO_length _ | assumption))) ?_
        refine JA.branch [3, 4] (by kernel_rfl) rfl ?_
        refine JAll.cons rfl ?_ ?_
        · -- 3
          refine JO.new rfl rfl rfl (.none rfl) (En.allocZ (cs := arr32 (List.replicate 64 0)) Tryd.zeroValue116 rfl) (fun b5 hb5 => ?_)
          refine JA.branch [4] (by kernel_rfl) rfl ?_
          refine JAll.cons rfl ?_ JAll.nil
          refine JO.new rfl rfl rfl (.none rfl) (En.allocZ (cs := arr32 (List.replicate 8 0)) Tryd.zeroValue110 rfl) (fun b6 hb6 => ?_)
          refine JA.branch [5] (by kernel_rfl) rfl ?_
          refine JAll.cons rfl ?_ JAll.nil
          refine JO.sto rfl rfl (.none rfl) (Es.storeA rfl rfl Tryd.sizeOf116 (by repeat (first | exact .here | apply Upd.there | apply Upd.left)) (by rw [arr32_size, sched_length]) (by first | rfl | exact dig_size _ | (rw [arr8_size]; first | exact sha_length _ | exact shaO_length _ | assumption)) (arr32_one _)) ?_
          refine JA.branch [6] (by kernel_rfl) rfl ?_
          refine JAll.cons rfl ?_ JAll.nil
          refine JO.sto rfl rfl (.none rfl) (Es.storeA rfl rfl Tryd.sizeOf110 (by repeat (first | exact .here | apply Upd.there | apply Upd.left)) (by first | rfl | exact dig_size _ | (rw [arr8_size]; first | exact sha_length _ | exact shaO_length _ | assumption)) (by first | rfl | exact dig_size _ | (rw [arr8_size]; first | exact sha_length _ | exact shaO_length _ | assumption)) (arr32_one _)) ?_
          refine JA.done (by kernel_rfl) ?_
          refine JQ.cutN (b5, b6) ?_ ?_
          · exact Keeps.get (by repeat (first | exact Keeps.nil | refine Keeps.cons rfl ?_))
          · first | exact Sub.all | exact Sub.of_cnt (fun a => by (try dsimp only); simp only [cntA]; omega) | repeat (first | exact Sub.nil | refine Sub.cons (by first | exact .here | exact .there .here | exact .there (.there .here) | exact .there (.there (.there .here)) | exact .there (.there (.there (.there .here)))) ?_ | exact Sub.all)
        refine JAll.cons rfl ?_ JAll.nil
        refine JO.new rfl rfl rfl (.none rfl) (En.allocZ (cs := arr32 (List.replicate 8 0)) Tryd.zeroValue110 rfl) (fun b6 hb6 => ?_)
        refine JA.branch [3] (by kernel_rfl) rfl ?_
        refine JAll.cons rfl ?_ JAll.nil
        refine JO.new rfl rfl rfl (.none rfl) (En.allocZ (cs := arr32 (List.replicate 64 0)) Tryd.zeroValue116 rfl) (fun b5 hb5 => ?_)
        refine JA.branch [5] (by kernel_rfl) rfl ?_
        refine JAll.cons rfl ?_ JAll.nil
        refine JO.sto rfl rfl (.none rfl) (Es.storeA rfl rfl Tryd.sizeOf116 (by repeat (first | exact .here | apply Upd.there | apply Upd.left)) (by rw [arr32_size, sched_length]) (by first | rfl | exact dig_size _ | (rw [arr8_size]; first | exact sha_length _ | exact shaO_length _ | assumption)) (arr32_one _)) ?_
        refine JA.branch [6] (by kernel_rfl) rfl ?_
        refine JAll.cons rfl ?_ JAll.nil
        refine JO.sto rfl rfl (.none rfl) (Es.storeA rfl rfl Tryd.sizeOf110 (by repeat (first | exact .here | apply Upd.there | apply Upd.left)) (by first | rfl | exact dig_size _ | (rw [arr8_size]; first | exact sha_length _ | exact shaO_length _ | assumption)) (by first | rfl | exact dig_size _ | (rw [arr8_size]; first | exact sha_length _ | exact shaO_length _ | assumption)) (arr32_one _)) ?_
        refine JA.done (by kernel_rfl) ?_
        refine JQ.cutN (b5, b6) ?_ ?_
        · exact Keeps.get (by repeat (first | exact Keeps.nil | refine Keeps.cons rfl ?_))
        · first | exact Sub.all | exact Sub.of_cnt (fun a => by (try dsimp only); simp only [cntA]; omega) | repeat (first | exact Sub.nil | refine Sub.cons (by first | exact .here | exact .there .here | exact .there (.there .here) | exact .there (.there (.there .here)) | exact .there (.there (.there (.there .here)))) ?_ | exact Sub.all)
      refine JAll.cons rfl ?_ ?_
      · -- 3
        refine JO.new rfl rfl rfl (.none rfl) (En.allocZ (cs := arr32 (List.replicate 64 0)) Tryd.zeroValue116 rfl) (fun b5 hb5 => ?_)
        refine JA.branch [2, 4] (by kernel_rfl) rfl ?_
        refine JAll.cons rfl ?_ ?_
        · -- 2
          refine JO.val rfl rfl rfl (.none rfl) (Ev.loadB rfl (by repeat (first | exact List.Mem.head _ | refine List.Mem.tail _ ?_ | refine List.mem_append_right _ ?_ | assumption)) Tryd.underlying110 rfl Tryd.sizeOf110 (by first | rfl | exact dig_size _ | (rw [arr8_size]; first | exact sha_length _ | exact shaO_length _ | assumption))) ?_
          refine JA.branch [4] (by kernel_rfl) rfl ?_
          refine JAll.cons rfl ?_ JAll.nil
          refine JO.new rfl rfl rfl (.none rfl) (En.allocZ (cs := arr32 (List.replicate 8 0)) Tryd.zeroValue110 rfl) (fun b6 hb6 => ?_)
          refine JA.branch [5] (by kernel_rfl) rfl ?_
          refine JAll.cons rfl ?_ JAll.nil
          refine JO.sto rfl rfl (.none rfl) (Es.storeA rfl rfl Tryd.sizeOf116 (by repeat (first | exact .here | apply Upd.there | apply Upd.left)) (by rw [arr32_size, sched_length]) (by first | rfl | exact dig_size _ | (rw [arr8_size]; first | exact sha_length _ | exact shaO_length _ | assumption)) (arr32_one _)) ?_
          refine JA.branch [6] (by kernel_rfl) rfl ?_
          refine JAll.cons rfl ?_ JAll.nil
          refine JO.sto rfl rfl (.none rfl) (Es.storeA rfl rfl Tryd.sizeOf110 (by repeat (first | exact .here | apply Upd.there | apply Upd.left)) (by first | rfl | exact dig_size _ | (rw [arr8_size]; first | exact sha_length _ | exact shaO_length _ | assumption)) (by first | rfl | exact dig_size _ | (rw [arr8_size]; first | exact sha_length _ | exact shaO_length _ | assumption)) (arr32_one _)) ?_
          refine JA.done (by kernel_rfl) ?_
          refine JQ.cutN (b5, b6) ?_ ?_
          · exact Keeps.get (by repeat (first | exact Keeps.nil | refine Keeps.cons rfl ?_))
          · first | exact Sub.all | exact Sub.of_cnt (fun a => by (try dsimp only); simp only [cntA]; omega) | repeat (first | exact Sub.nil | refine Sub.cons (by first | exact .here | exact .there .here | exact .there (.there .here) | exact .there (.there (.there .here)) | exact .there (.there (.there (.there .here)))) ?_ | exact Sub.all)
        refine JAll.cons rfl ?_ JAll.nil
        refine JO.new rfl rfl rfl (.none rfl) (En.allocZ (cs := arr32 (List.replicate 8 0)) Tryd.zeroValue110 rfl) (fun b6 hb6 => ?_)
        refine JA.branch [2, 5] (by kernel_rfl) rfl ?_
        refine JAll.cons rfl ?_ ?_
        · -- 2
          refine JO.val rfl rfl rfl (.none rfl) (Ev.loadB rfl (by repeat (first | exact List.Mem.head _ | refine List.Mem.tail _ ?_ | refine List.mem_append_right _ ?_ | assumption)) Tryd.underlying110 rfl Tryd.sizeOf110 (by first | rfl | exact dig_size _ | (rw [arr8_size]; first | exact sha_length _ | exact shaO_length _ | assumption))) ?_
          refine JA.branch [5] (by kernel_rfl) rfl ?_
          refine JAll.cons rfl ?_ JAll.nil
          refine JO.sto rfl rfl (.none rfl) (Es.storeA rfl rfl Tryd.sizeOf116 (by repeat (first | exact .here | apply Upd.there | apply Upd.left)) (by rw [arr32_size, sched_length]) (by first | rfl | exact dig_size _ | (rw [arr8_size]; first | exact sha_length _ | exact shaO_length _ | assumption)) (arr32_one _)) ?_
          refine JA.branch [6] (by kernel_rfl) rfl ?_
          refine JAll.cons rfl ?_ JAll.nil
          refine JO.sto rfl rfl (.none rfl) (Es.storeA rfl rfl Tryd.sizeOf110 (by repeat (first | exact .here | apply Upd.there | apply Upd.left)) (by first | rfl | exact dig_size _ | (rw [arr8_size]; first | exact sha_length _ | exact shaO_length _ | assumption)) (by first | rfl | exact dig_size _ | (rw [arr8_size]; first | exact sha_length _ | exact shaO_length _ | assumption)) (arr32_one _)) ?_
          refine JA.done (by kernel_rfl) ?_
          refine JQ.cutN (b5, b6) ?_ ?_
          · exact Keeps.get (by repeat (first | exact Keeps.nil | refine Keeps.cons rfl ?_))
          · first | exact Sub.all | exact Sub.of_cnt (fun a => by (try dsimp only); simp only [cntA]; omega) | repeat (first | exact Sub.nil | refine Sub.cons (by first | exact .here | exact .there .here | exact .there (.there .here) | exact .there (.there (.there .here)) | exact .there (.there (.there (.there .here)))) ?_ | exact Sub.all)
        refine JAll.cons rfl ?_ JAll.nil
        refine JO.sto rfl rfl (.none rfl) (Es.storeA rfl rfl Tryd.sizeOf116 (by repeat (first | exact .here | apply Upd.there | apply Upd.left)) (by rw [arr32_size, sched_length]) (by first | rfl | exact dig_size _ | (rw [arr8_size]; first | exact sha_length _ | exact shaO_length _ | assumption)) (arr32_one _)) ?_
        refine JA.branch [2] (by kernel_rfl) rfl ?_
        refine JAll.cons rfl ?_ JAll.nil
        refine JO.val rfl rfl rfl (.none rfl) (Ev.loadB rfl (by repeat (first | exact List.Mem.head _ | refine List.Mem.tail _ ?_ | refine List.mem_append_right _ ?_ | assumption)) Tryd.underlying110 rfl Tryd.sizeOf110 (by first | rfl | exact dig_size _ | (rw [arr8_size]; first | exact sha_length _ | exact shaO_length _ | assumption))) ?_
        refine JA.branch [6] (by kernel_rfl) rfl ?_
        refine JAll.cons rfl ?_ JAll.nil
        refine JO.sto rfl rfl (.none rfl) (Es.storeA rfl rfl Tryd.sizeOf110 (by repeat (first | exact .here | apply Upd.there | apply Upd.left)) (by first | rfl | exact dig_size _ | (rw [arr8_size]; first | exact sha_length _ | exact shaO_length _ | assumption)) (by first | rfl | exact dig_size _ | (rw [arr8_size]; first | exact sha_length _ | exact shaO_length _ | assumption)) (arr32_one _)) ?_
        refine JA.done (by kernel_rfl) ?_
        refine JQ.cutN (b5, b6) ?_ ?_
        · exact Keeps.get (by repeat (first | exact Keeps.nil | refine Keeps.cons rfl ?_))
        · first | exact Sub.all | exact Sub.of_cnt (fun a => by (try dsimp only); simp only [cntA]; omega) | repeat (first | exact Sub.nil | refine Sub.cons (by first | exact .here | exact .there .here | exact .there (.there .here) | exact .there (.there (.there .here)) | exact .there (.there (.there (.there .here)))) ?_ | exact Sub.all)
      refine JAll.cons rfl ?_ JAll.nil
      refine JO.new rfl rfl rfl (.none rfl) (En.allocZ (cs := arr32 (List.replicate 8 0)) Tryd.zeroValue110 rfl) (fun b6 hb6 => ?_)
      refine JA.branch [2, 3] (by kernel_rfl) rfl ?_
      refine JAll.cons rfl ?_ ?_
      · -- 2
        refine JO.val rfl rfl rfl (.none rfl) (Ev.loadB rfl (by repeat (first | exact List.Mem.head _ | refine List.Mem.tail _ ?_ | refine List.mem_append_right _ ?_ | assumption)) Tryd.underlying110 rfl Tryd.sizeOf110 (by first | rfl | exact dig_size _ | (rw [arr8_size]; first | exact sha_length _ | exact shaO_length _ | assumption))) ?_
        refine JA.branch [3] (by kernel_rfl) rfl ?_
        refine JAll.cons rfl ?_ JAll.nil
        refine JO.new rfl rfl rfl (.none rfl) (En.allocZ (cs := arr32 (List.replicate 64 0)) Tryd.zeroValue116 rfl) (fun b5 hb5 => ?_)
        refine JA.branch [5] (by kernel_rfl) rfl ?_
        refine JAll.cons rfl ?_ JAll.nil
        refine JO.sto rfl rfl (.none rfl) (Es.storeA rfl rfl Tryd.sizeOf116 (by repeat (first | exact .here | apply Upd.there | apply Upd.left)) (by rw [arr32_size, sched_length]) (by first | rfl | exact dig_size _ | (rw [arr8_size]; first | exact sha_length _ | exact shaO_length _ | assumption)) (arr32_one _)) ?_
        refine JA.branch [6] (by kernel_rfl) rfl ?_
        refine JAll.cons rfl ?_ JAll.nil
        refine JO.sto rfl rfl (.none rfl) (Es.storeA rfl rfl Tryd.sizeOf110 (by repeat (first | exact .here | apply Upd.there | apply Upd.left)) (by first | rfl | exact dig_size _ | (rw [arr8_size]; first | exact sha_length _ | exact shaO_length _ | assumption)) (by first | rfl | exact dig_size _ | (rw [arr8_size]; first | exact sha_length _ | exact shaO_length _ | assumption)) (arr32_one _)) ?_
        refine JA.done (by kernel_rfl) ?_
        refine JQ.cutN (b5, b6) ?_ ?_
        · exact Keeps.get (by repeat (first | exact Keeps.nil | refine Keeps.cons rfl ?_))
        · first | exact Sub.all | exact Sub.of_cnt (fun a => by (try dsimp only); simp only [cntA]; omega) | repeat (first | exact Sub.nil | refine Sub.cons (by first | exact .here | exact .there .here | exact .there (.there .here) | exact .there (.there (.there .here)) | exact .there (.there (.there (.there .here)))) ?_ | exact Sub.all)
      refine JAll.cons rfl ?_ JAll.nil
      refine JO.new rfl rfl rfl (.none rfl) (En.allocZ (cs := arr32 (List.replicate 64 0)) Tryd.zeroValue116 rfl) (fun b5 hb5 => ?_)
      refine JA.branch [2, 5] (by kernel_rfl) rfl ?_
      refine JAll.cons rfl ?_ ?_
      · -- 2
        refine JO.val rfl rfl rfl (.none rfl) (Ev.loadB rfl (by repeat (first | exact List.Mem.head _ | refine List.Mem.tail _ ?_ | refine List.mem_append_right _ ?_ | assumption)) Tryd.underlying110 rfl Tryd.sizeOf110 (by first | rfl | exact dig_size _ | (rw [arr8_size]; first | exact sha_length _ | exact shaO_length _ | assumption))) ?_
        refine JA.branch [5] (by kernel_rfl) rfl ?_
        refine JAll.cons rfl ?_ JAll.nil
        refine JO.sto rfl rfl (.none rfl) (Es.storeA rfl rfl Tryd.sizeOf116 (by repeat (first | exact .here | apply Upd.there | apply Upd.left)) (by rw [arr32_size, sched_length]) (by first | rfl | exact dig_size _ | (rw [arr8_size]; first | exact sha_length _ | exact shaO_length _ | assumption)) (arr32_one _)) ?_
        refine JA.branch [6] (by kernel_rfl) rfl ?_
        refine JAll.cons rfl ?_ JAll.nil
        refine JO.sto rfl rfl (.none rfl) (Es.storeA rfl rfl Tryd.sizeOf110 (by repeat (first | exact .here | apply Upd.there | apply Upd.left)) (by first | rfl | exact dig_size _ | (rw [arr8_size]; first | exact sha_length _ | exact shaO_length _ | assumption)) (by first | rfl | exact dig_size _ | (rw [arr8_size]; first | exact sha_length _ | exact shaO_length _ | assumption)) (arr32_one _)) ?_
        refine JA.done (by kernel_rfl) ?_
        refine JQ.cutN (b5, b6) ?_ ?_
        · exact Keeps.get (by repeat (first | exact Keeps.nil | refine Keeps.cons rfl ?_))
        · first | exact Sub.all | exact Sub.of_cnt (fun a => by (try dsimp only); simp only [cntA]; omega) | repeat (first | exact Sub.nil | refine Sub.cons (by first | exact .here | exact .there .here | exact .there (.there .here) | exact .there (.there (.there .here)) | exact .there (.there (.there (.there .here)))) ?_ | exact Sub.all)
      refine JAll.cons rfl ?_ JAll.nil
      refine JO.sto rfl rfl (.none rfl) (Es.storeA rfl rfl Tryd.sizeOf116 (by repeat (first | exact .here | apply Upd.there | apply Upd.left)) (by rw [arr32_size, sched_length]) (by first | rfl | exact dig_size _ | (rw [arr8_size]; first | exact sha_length _ | exact shaO_length _ | assumption)) (arr32_one _)) ?_
      refine JA.branch [2] (by kernel_rfl) rfl ?_
      refine JAll.cons rfl ?_ JAll.nil
      refine JO.val rfl rfl rfl (.none rfl) (Ev.loadB rfl (by repeat (first | exact List.Mem.head _ | refine List.Mem.tail _ ?_ | refine List.mem_append_right _ ?_ | assumption)) Tryd.underlying110 rfl Tryd.sizeOf110 (by first | rfl | exact dig_size _ | (rw [arr8_size]; first | exact sha_length _ | exact shaO_length _ | assumption))) ?_
      refine JA.branch [6] (by kernel_rfl) rfl ?_
      refine JAll.cons rfl ?_ JAll.nil
      refine JO.sto rfl rfl (.none rfl) (Es.storeA rfl rfl Tryd.sizeOf110 (by repeat (first | exact .here | apply Upd.there | apply Upd.left)) (by first | rfl | exact dig_size _ | (rw [arr8_size]; first | exact sha_length _ | exact shaO_length _ | assumption)) (by first | rfl | exact dig_size _ | (rw [arr8_size]; first | exact sha_length _ | exact shaO_length _ | assumption)) (arr32_one _)) ?_
      refine JA.done (by kernel_rfl) ?_
      refine JQ.cutN (b5, b6) ?_ ?_
      · exact Keeps.get (by repeat (first | exact Keeps.nil | refine Keeps.cons rfl ?_))
      · first | exact Sub.all | exact Sub.of_cnt (fun a => by (try dsimp only); simp only [cntA]; omega) | repeat (first | exact Sub.nil | refine Sub.cons (by first | exact .here | exact .there .here | exact .there (.there .here) | exact .there (.there (.there .here)) | exact .there (.there (.there (.there .here)))) ?_ | exact Sub.all)
    refine JAll.cons rfl ?_ ?_
    · -- 2
      refine JO.val rfl rfl rfl (.none rfl) (Ev.loadB rfl (by repeat (first | exact List.Mem.head _ | refine List.Mem.tail _ ?_ | refine List.mem_append_right _ ?_ | assumption)) Tryd.underlying110 rfl Tryd.sizeOf110 (by first | rfl | exact dig_size _ | (rw [arr8_size]; first | exact sha_length _ | exact shaO_length _ | assumption))) ?_
      refine JA.branch [1, 3, 4] (by kernel_rfl) rfl ?_
      refine JAll.cons rfl ?_ ?_
      · -- 1
        refine JO.callV rfl (.none rfl) rfl Tryd.call81 (fun w1 hw1 => spread_any a cap l w1 (hm.old hw1) hl hc) ?_
        refine JA.branch [3, 4] (by kernel_rfl) rfl ?_
        refine JAll.cons rfl ?_ ?_
        · -- 3
          refine JO.new rfl rfl rfl (.none rfl) (En.allocZ (cs := arr32 (List.replicate 64 0)) Tryd.zeroValue116 rfl) (fun b5 hb5 => ?_)
          refine JA.branch [4] (by kernel_rfl) rfl ?_
          refine JAll.cons rfl ?_ JAll.nil
          refine JO.new rfl rfl rfl (.none rfl) (En.allocZ (cs := arr32 (List.replicate 8 0)) Tryd.zeroValue110 rfl) (fun b6 hb6 => ?_)
          refine JA.branch [5] (by kernel_rfl) rfl ?_
          refine JAll.cons rfl ?_ JAll.nil
          refine JO.sto rfl rfl (.none rfl) (Es.storeA rfl rfl Tryd.sizeOf116 (by repeat (first | exact .here | apply Upd.there | apply Upd.left)) (by rw [arr32_size, sched_length]) (by first | rfl | exact dig_size _ | (rw [arr8_size]; first | exact sha_length _ | exact shaO_length _ | assumption)) (arr32_one _)) ?_
          refine JA.branch [6] (by kernel_rfl) rfl ?_
          refine JAll.cons rfl ?_ JAll.nil
          refine JO.sto rfl rfl (.none rfl) (Es.storeA rfl rfl Tryd.sizeOf110 (by repeat (first | exact .here | apply Upd.there | apply Upd.left)) (by first | rfl | exact dig_size _ | (rw [arr8_size]; first | exact sha_length _ | exact shaO_length _ | assumption)) (by first | rfl | exact dig_size _ | (rw [arr8_size]; first | exact sha_length _ | exact shaO_length _ | assumption)) (arr32_one _)) ?_
          refine JA.done (by kernel_rfl) ?_
          refine JQ.cutN (b5, b6) ?_ ?_
          · exact Keeps.get (by repeat (first | exact Keeps.nil | refine Keeps.cons rfl ?_))
          · first | exact Sub.all | exact Sub.of_cnt (fun a => by (try dsimp only); simp only [cntA]; omega) | repeat (first | exact Sub.nil | refine Sub.cons (by first | exact .here | exact .there .here | exact .there (.there .here) | exact .there (.there (.there .here)) | exact .there (.there (.there (.there .here)))) ?_ | exact Sub.all)
        refine JAll.cons rfl ?_ JAll.nil
        refine JO.new rfl rfl rfl (.none rfl) (En.allocZ (cs := arr32 (List.replicate 8 0)) Tryd.zeroValue110 rfl) (fun b6 hb6 => ?_)
        refine JA.branch [3] (by kernel_rfl) rfl ?_
        refine JAll.cons rfl ?_ JAll.nil
        refine JO.new rfl rfl rfl (.none rfl) (En.allocZ (cs := arr32 (List.replicate 64 0)) Tryd.zeroValue116 rfl) (fun b5 hb5 => ?_)
        refine JA.branch [5] (by kernel_rfl) rfl ?_
        refine JAll.cons rfl ?_ JAll.nil
        refine JO.sto rfl rfl (.none rfl) (Es.storeA rfl rfl Tryd.sizeOf116 (by repeat (first | exact .here | apply Upd.there | apply Upd.left)) (by rw [arr32_size, sched_length]) (by first | rfl | exact dig_size _ | (rw [arr8_size]; first | exact sha_length _ | exact shaO_length _ | assumption)) (arr32_one _)) ?_
        refine JA.branch [6] (by kernel_rfl) rfl ?_
        refine JAll.cons rfl ?_ JAll.nil
        refine JO.sto rfl rfl (.none rfl) (Es.storeA rfl rfl Tryd.sizeOf110 (by repeat (first | exact .here | apply Upd.there | apply Upd.left)) (by first | rfl | exact dig_size _ | (rw [arr8_size]; first | exact sha_length _ | exact shaO_length _ | assumption)) (by first | rfl | exact dig_size _ | (rw [arr8_size]; first | exact sha_length _ | exact shaO_length _ | assumption)) (arr32_one _)) ?_
        refine JA.done (by kernel_rfl) ?_
        refine JQ.cutN (b5, b6) ?_ ?_
        · exact Keeps.get (by repeat (first | exact Keeps.nil | refine Keeps.cons rfl ?_))
        · first | exact Sub.all | exact Sub.of_cnt (fun a => by (try dsimp only); simp only [cntA]; omega) | repeat (first | exact Sub.nil | refine Sub.cons (by first | exact .here | exact .there .here | exact .there (.there .here) | exact .there (.there (.there .here)) | exact .there (.there (.there (.there .here)))) ?_ | exact Sub.all)
      refine JAll.cons rfl ?_ ?_
      · -- 3
        refine JO.new rfl rfl rfl (.none rfl) (En.allocZ (cs := arr32 (List.replicate 64 0)) Tryd.zeroValue116 rfl) (fun b5 hb5 => ?_)
        refine JA.branch [1, 4] (by kernel_rfl) rfl ?_
        refine JAll.cons rfl ?_ ?_
        · -- 1
          refine JO.callV rfl (.none rfl) rfl Tryd.call81 (fun w1 hw1 => spread_any a cap l w1 (hm.old hw1) hl hc) ?_
          refine JA.branch [4] (by kernel_rfl) rfl ?_
          refine JAll.cons rfl ?_ JAll.nil
          refine JO.new rfl rfl rfl (.none rfl) (En.allocZ (cs := arr32 (List.replicate 8 0)) Tryd.zeroValue110 rfl) (fun b6 hb6 => ?_)
          refine JA.branch [5] (by kernel_rfl) rfl ?_
          refine JAll.cons rfl ?_ JAll.nil
          refine JO.sto rfl rfl (.none rfl) (Es.storeA rfl rfl Tryd.sizeOf116 (by repeat (first | exact .here | apply Upd.there | apply Upd.left)) (by rw [arr32_size, sched_length]) (by first | rfl | exact dig_size _ | (rw [arr8_size]; first | exact sha_length _ | exact shaO_length _ | assumption)) (arr32_one _)) ?_
          refine JA.branch [6] (by kernel_rfl) rfl ?_
          refine JAll.cons rfl ?_ JAll.nil
          refine JO.sto rfl rfl (.none rfl) (Es.storeA rfl rfl Tryd.sizeOf110 (by repeat (first | exact .here | apply Upd.there | apply Upd.left)) (by first | rfl | exact dig_size _ | (rw [arr8_size]; first | exact sha_length _ | exact shaO_length _ | assumption)) (by first | rfl | exact dig_size _ | (rw [arr8_size]; first | exact sha_length _ | exact shaO_length _ | assumption)) (arr32_one _)) ?_
          refine JA.done (by kernel_rfl) ?_
          refine JQ.cutN (b5, b6) ?_ ?_
          · exact Keeps.get (by repeat (first | exact Keeps.nil | refine Keeps.cons rfl ?_))
          · first | exact Sub.all | exact Sub.of_cnt (fun a => by (try dsimp only); simp only [cntA]; omega) | repeat (first | exact Sub.nil | refine Sub.cons (by first | exact .here | exact .there .here | exact .there (.there .here) | exact .there (.there (.there .here)) | exact .there (.there (.there (.there .here)))) ?_ | exact Sub.all)
        refine JAll.cons rfl ?_ JAll.nil
        refine JO.new rfl rfl rfl (.none rfl) (En.allocZ (cs := arr32 (List.replicate 8 0)) Tryd.zeroValue110 rfl) (fun b6 hb6 => ?_)
        refine JA.branch [1] (by kernel_rfl) rfl ?_
        refine JAll.cons rfl ?_ JAll.nil
        refine JO.callV rfl (.none rfl) rfl Tryd.call81 (fun w1 hw1 => spread_any a cap l w1 (hm.old hw1) hl hc) ?_
        refine JA.branch [5] (by kernel_rfl) rfl ?_
        refine JAll.cons rfl ?_ JAll.nil
        refine JO.sto rfl rfl (.none rfl) (Es.storeA rfl rfl Tryd.sizeOf116 (by repeat (first | exact .here | apply Upd.there | apply Upd.left)) (by rw [arr32_size, sched_length]) (by first | rfl | exact dig_size _ | (rw [arr8_size]; first | exact sha_length _ | exact shaO_length _ | assumption)) (arr32_one _)) ?_
        refine JA.branch [6] (by kernel_rfl) rfl ?_
        refine JAll.cons rfl ?_ JAll.nil
        refine JO.sto rfl rfl (.none rfl) (Es.storeA rfl rfl Tryd.sizeOf110 (by repeat (first | exact .here | apply Upd.there | apply Upd.left)) (by first | rfl | exact dig_size _ | (rw [arr8_size]; first | exact sha_length _ | exact shaO_length _ | assumption)) (by first | rfl | exact dig_size _ | (rw [arr8_size]; first | exact sha_length _ | exact shaO_length _ | assumption)) (arr32_one _)) ?_
        refine JA.done (by kernel_rfl) ?_
        refine JQ.cutN (b5, b6) ?_ ?_
        · exact Keeps.get (by repeat (first | exact Keeps.nil | refine Keeps.cons rfl ?_))
        · first | exact Sub.all | exact Sub.of_cnt (fun a => by (try dsimp only); simp only [cntA]; omega) | repeat (first | exact Sub.nil | refine Sub.cons (by first | exact .here | exact .there .here | exact .there (.there .here) | exact .there (.there (.there .here)) | exact .there (.there (.there (.there .here)))) ?_ | exact Sub.all)
      refine JAll.cons rfl ?_ JAll.nil
      refine JO.new rfl rfl rfl (.none rfl) (En.allocZ (cs := arr32 (List.replicate 8 0)) Tryd.zeroValue110 rfl) (fun b6 hb6 => ?_)
      refine JA.branch [1, 3] (by kernel_rfl) rfl ?_
      refine JAll.cons rfl ?_ ?_
      · -- 1
        refine JO.callV rfl (.none rfl) rfl Tryd.call81 (fun w1 hw1 => spread_any a cap l w1 (hm.old hw1) hl hc) ?_
        refine JA.branch [3] (by kernel_rfl) rfl ?_
        refine JAll.cons rfl ?_ JAll.nil
        refine JO.new rfl rfl rfl (.none rfl) (En.allocZ (cs := arr32 (List.replicate 64 0)) Tryd.zeroValue116 rfl) (fun b5 hb5 => ?_)
        refine JA.branch [5] (by kernel_rfl) rfl ?_
        refine JAll.cons rfl ?_ JAll.nil
        refine JO.sto rfl rfl (.none rfl) (Es.storeA rfl rfl Tryd.sizeOf116 (by repeat (first | exact .here | apply Upd.there | apply Upd.left)) (by rw [arr32_size, sched_length]) (by first | rfl | exact dig_size _ | (rw [arr8_size]; first | exact sha_length _ | exact shaO_length _ | assumption)) (arr32_one _)) ?_
        refine JA.branch [6] (by kernel_rfl) rfl ?_
        refine JAll.cons rfl ?_ JAll.nil
        refine JO.sto rfl rfl (.none rfl) (Es.storeA rfl rfl Tryd.sizeOf110 (by repeat (first | exact .here | apply Upd.there | apply Upd.left)) (by first | rfl | exact dig_size _ | (rw [arr8_size]; first | exact sha_length _ | exact shaO_length _ | assumption)) (by first | rfl | exact dig_size _ | (rw [arr8_size]; first | exact sha_length _ | exact shaO_length _ | assumption)) (arr32_one _)) ?_
        refine JA.done (by kernel_rfl) ?_
        refine JQ.cutN (b5, b6) ?_ ?_
        · exact Keeps.get (by repeat (first | exact Keeps.nil | refine Keeps.cons rfl ?_))
        · first | exact Sub.all | exact Sub.of_cnt (fun a => by (try dsimp only); simp only [cntA]; omega) | repeat (first | exact Sub.nil | refine Sub.cons (by first | exact .here | exact .there .here | exact .there (.there .here) | exact .there (.there (.there .here)) | exact .there (.there (.there (.there .here)))) ?_ | exact Sub.all)
      refine JAll.cons rfl ?_ JAll.nil
      refine JO.new rfl rfl rfl (.none rfl) (En.allocZ (cs := arr32 (List.replicate 64 0)) Tryd.zeroValue116 rfl) (fun b5 hb5 => ?_)
      refine JA.branch [1] (by kernel_rfl) rfl ?_
      refine JAll.cons rfl ?_ JAll.nil
      refine JO.callV rfl (.none rfl) rfl Tryd.call81 (fun w1 hw1 => spread_any a cap l w1 (hm.old hw1) hl hc) ?_
      refine JA.branch [5] (by kernel_rfl) rfl ?_
      refine JAll.cons rfl ?_ JAll.nil
      refine JO.sto rfl rfl (.none rfl) (Es.storeA rfl rfl Tryd.sizeOf116 (by repeat (first | exact .here | apply Upd.there | apply Upd.left)) (by rw [arr32_size, sched_length]) (by first | rfl | exact dig_size _ | (rw [arr8_size]; first | exact sha_length _ | exact shaO_length _ | assumption)) (arr32_one _)) ?_
      refine JA.branch [6] (by kernel_rfl) rfl ?_
      refine JAll.cons rfl ?_ JAll.nil
      refine JO.sto rfl rfl (.none rfl) (Es.storeA rfl rfl Tryd.sizeOf110 (by repeat (first | exact .here | apply Upd.there | apply Upd.left)) (by first | rfl | exact dig_size _ | (rw [arr8_size]; first | exact sha_length _ | exact shaO_length _ | assumption)) (by first | rfl | exact dig_size _ | (rw [arr8_size]; first | exact sha_length _ | exact shaO_length _ | assumption)) (arr32_one _)) ?_
      refine JA.done (by kernel_rfl) ?_
      refine JQ.cutN (b5, b6) ?_ ?_
      · exact Keeps.get (by repeat (first | exact Keeps.nil | refine Keeps.cons rfl ?_))
      · first | exact Sub.all | exact Sub.of_cnt (fun a => by (try dsimp only); simp only [cntA]; omega) | repeat (first | exact Sub.nil | refine Sub.cons (by first | exact .here | exact .there .here | exact .there (.there .here) | exact .there (.there (.there .here)) | exact .there (.there (.there (.there .here)))) ?_ | exact Sub.all)
    refine JAll.cons rfl ?_ ?_
    · -- 3
      refine JO.new rfl rfl rfl (.none rfl) (En.allocZ (cs := arr32 (List.replicate 64 0)) Tryd.zeroValue116 rfl) (fun b5 hb5 => ?_)
      refine JA.branch [1, 2, 4] (by kernel_rfl) rfl ?_
      refine JAll.cons rfl ?_ ?_
      · -- 1
        refine JO.callV rfl (.none rfl) rfl Tryd.call81 (fun w1 hw1 => spread_any a cap l w1 (hm.old hw1) hl hc) ?_
        refine JA.branch [2, 4] (by kernel_rfl) rfl ?_
        refine JAll.cons rfl ?_ ?_
        · -- 2
          refine JO.val rfl rfl rfl (.none rfl) (Ev.loadB rfl (by repeat (first | exact List.Mem.head _ | refine List.Mem.tail _ ?_ | refine List.mem_append_right _ ?_ | assumption)) Tryd.underlying110 rfl Tryd.sizeOf110 (by first | rfl | exact dig_size _ | (rw [arr8_size]; first | exact sha_length _ | exact shaO_length _ | assumption))) ?_
          refine JA.branch [4] (by kernel_rfl) rfl ?_
          refine JAll.cons rfl ?_ JAll.nil
          refine JO.new rfl rfl rfl (.none rfl) (En.allocZ (cs := arr32 (List.replicate 8 0)) Tryd.zeroValue110 rfl) (fun b6 hb6 => ?_)
          refine JA.branch [5] (by kernel_rfl) rfl ?_
          refine JAll.cons rfl ?_ JAll.nil
          refine JO.sto rfl rfl (.none rfl) (Es.storeA rfl rfl Tryd.sizeOf116 (by repeat (first | exact .here | apply Upd.there | apply Upd.left)) (by rw [arr32_size, sched_length]) (by first | rfl | exact dig_size _ | (rw [arr8_size]; first | exact sha_length _ | exact shaO_length _ | assumption)) (arr32_one _)) ?_
          refine JA.branch [6] (by kernel_rfl) rfl ?_
          refine JAll.cons rfl ?_ JAll.nil
          refine JO.sto rfl rfl (.none rfl) (Es.storeA rfl rfl Tryd.sizeOf110 (by repeat (first | exact .here | apply Upd.there | apply Upd.left)) (by first | rfl | exact dig_size _ | (rw [arr8_size]; first | exact sha_length _ | exact shaO_length _ | assumption)) (by first | rfl | exact dig_size _ | (rw [arr8_size]; first | exact sha_length _ | exact shaO_length _ | assumption)) (arr32_one _)) ?_
          refine JA.done (by kernel_rfl) ?_
          refine JQ.cutN (b5, b6) ?_ ?_
          · exact Keeps.get (by repeat (first | exact Keeps.nil | refine Keeps.cons rfl ?_))
          · first | exact Sub.all | exact Sub.of_cnt (fun a => by (try dsimp only); simp only [cntA]; omega) | repeat (first | exact Sub.nil | refine Sub.cons (by first | exact .here | exact .there .here | exact .there (.there .here) | exact .there (.there (.there .here)) | exact .there (.there (.there (.there .here)))) ?_ | exact Sub.all)
        refine JAll.cons rfl ?_ JAll.nil
        refine JO.new rfl rfl rfl (.none rfl) (En.allocZ (cs := arr32 (List.replicate 8 0)) Tryd.zeroValue110 rfl) (fun b6 hb6 => ?_)
        refine JA.branch [2, 5] (by kernel_rfl) rfl ?_
        refine JAll.cons rfl ?_ ?_
        · -- 2
          refine JO.val rfl rfl rfl (.none rfl) (Ev.loadB rfl (by repeat (first | exact List.Mem.head _ | refine List.Mem.tail _ ?_ | refine List.mem_append_right _ ?_ | assumption)) Tryd.underlying110 rfl Tryd.sizeOf110 (by first | rfl | exact dig_size _ | (rw [arr8_size]; first | exact sha_length _ | exact shaO_length _ | assumption))) ?_
          refine JA.branch [5] (by kernel_rfl) rfl ?_
          refine JAll.cons rfl ?_ JAll.nil
          refine JO.sto rfl rfl (.none rfl) (Es.storeA rfl rfl Tryd.sizeOf116 (by repeat (first | exact .here | apply Upd.there | apply Upd.left)) (by rw [arr32_size, sched_length]) (by first | rfl | exact dig_size _ | (rw [arr8_size]; first | exact sha_length _ | exact shaO_length _ | assumption)) (arr32_one _)) ?_
          refine JA.branch [6] (by kernel_rfl) rfl ?_
          refine JAll.cons rfl ?_ JAll.nil
          refine JO.sto rfl rfl (.none rfl) (Es.storeA rfl rfl Tryd.sizeOf110 (by repeat (first | exact .here | apply Upd.there | apply Upd.left)) (by first | rfl | exact dig_size _ | (rw [arr8_size]; first | exact sha_length _ | exact shaO_length _ | assumption)) (by first | rfl | exact dig_size _ | (rw [arr8_size]; first | exact sha_length _ | exact shaO_length _ | assumption)) (arr32_one _)) ?_
          refine JA.done (by kernel_rfl) ?_
          refine JQ.cutN (b5, b6) ?_ ?_
          · exact Keeps.get (by repeat (first | exact Keeps.nil | refine Keeps.cons rfl ?_))
          · first | exact Sub.all | exact Sub.of_cnt (fun a => by (try dsimp only); simp only [cntA]; omega) | repeat (first | exact Sub.nil | refine Sub.cons (by first | exact .here | exact .there .here | exact .there (.there .here) | exact .there (.there (.there .here)) | exact .there (.there (.there (.there .here)))) ?_ | exact Sub.all)
        refine JAll.cons rfl ?_ JAll.nil
        refine JO.sto rfl rfl (.none rfl) (Es.storeA rfl rfl Tryd.sizeOf116 (by repeat (first | exact .here | apply Upd.there | apply Upd.left)) (by rw [arr32_size, sched_length]) (by first | rfl | exact dig_size _ | (rw [arr8_size]; first | exact sha_length _ | exact shaO_length _ | assumption)) (arr32_one _)) ?_
        refine JA.branch [2] (by kernel_rfl) rfl ?_
        refine JAll.cons rfl ?_ JAll.nil
        refine JO.val rfl rfl rfl (.none rfl) (Ev.loadB rfl (by repeat (first | exact List.Mem.head _ | refine List.Mem.tail _ ?_ | refine List.mem_append_right _ ?_ | assumption)) Tryd.underlying110 rfl Tryd.sizeOf110 (by first | rfl | exact dig_size _ | (rw [arr8_size]; first | exact sha_length _ | exact shaO_length _ | assumption))) ?_
        refine JA.branch [6] (by kernel_rfl) rfl ?_
        refine JAll.cons rfl ?_ JAll.nil
        refine JO.sto rfl rfl (.none rfl) (Es.storeA rfl rfl Tryd.sizeOf110 (by repeat (first | exact .here | apply Upd.there | apply Upd.left)) (by first | rfl | exact dig_size _ | (rw [arr8_size]; first | exact sha_length _ | exact shaO_length _ | assumption)) (by first | rfl | exact dig_size _ | (rw [arr8_size]; first | exact sha_length _ | exact shaO_length _ | assumption)) (arr32_one _)) ?_
        refine JA.done (by kernel_rfl) ?_
        refine JQ.cutN (b5, b6) ?_ ?_
        · exact Keeps.get (by repeat (first | exact Keeps.nil | refine Keeps.cons rfl ?_))
        · first | exact Sub.all | exact Sub.of_cnt (fun a => by (try dsimp only); simp only [cntA]; omega) | repeat (first | exact Sub.nil | refine Sub.cons (by first | exact .here | exact .there .here | exact .there (.there .here) | exact .there (.there (.there .here)) | exact .there (.there (.there (.there .here)))) ?_ | exact Sub.all)
      refine JAll.cons rfl ?_ ?_
      · -- 2
        refine JO.val rfl rfl rfl (.none rfl) (Ev.loadB rfl (by repeat (first | exact List.Mem.head _ | refine List.Mem.tail _ ?_ | refine List.mem_append_right _ ?_ | assumption)) Tryd.underlying110 rfl Tryd.sizeOf110 (by first | rfl | exact dig_size _ | (rw [arr8_size]; first | exact sha_length _ | exact shaO_length _ | assumption))) ?_
        refine JA.branch [1, 4] (by kernel_rfl) rfl ?_
        refine JAll.cons rfl ?_ ?_
        · -- 1
          refine JO.callV rfl (.none rfl) rfl Tryd.call81 (fun w1 hw1 => spread_any a cap l w1 (hm.old hw1) hl hc) ?_
          refine JA.branch [4] (by kernel_rfl) rfl ?_
          refine JAll.cons rfl ?_ JAll.nil
          refine JO.new rfl rfl rfl (.none rfl) (En.allocZ (cs := arr32 (List.replicate 8 0)) Tryd.zeroValue110 rfl) (fun b6 hb6 => ?_)
          refine JA.branch [5] (by kernel_rfl) rfl ?_
          refine JAll.cons rfl ?_ JAll.nil
          refine JO.sto rfl rfl (.none rfl) (Es.storeA rfl rfl Tryd.sizeOf116 (by repeat (first | exact .here | apply Upd.there | apply Upd.left)) (by rw [arr32_size, sched_length]) (by first | rfl | exact dig_size _ | (rw [arr8_size]; first | exact sha_length _ | exact shaO_length _ | assumption)) (arr32_one _)) ?_
          refine JA.branch [6] (by kernel_rfl) rfl ?_
          refine JAll.cons rfl ?_ JAll.nil
          refine JO.sto rfl rfl (.none rfl) (Es.storeA rfl rfl Tryd.sizeOf110 (by repeat (first | exact .here | apply Upd.there | apply Upd.left)) (by first | rfl | exact dig_size _ | (rw [arr8_size]; first | exact sha_length _ | exact shaO_length _ | assumption)) (by first | rfl | exact dig_size _ | (rw [arr8_size]; first | exact sha_length _ | exact shaO_length _ | assumption)) (arr32_one _)) ?_
          refine JA.done (by kernel_rfl) ?_
          refine JQ.cutN (b5, b6) ?_ ?_
          · exact Keeps.get (by repeat (first | exact Keeps.nil | refine Keeps.cons rfl ?_))
          · first | exact Sub.all | exact Sub.of_cnt (fun a => by (try dsimp only); simp only [cntA]; omega) | repeat (first | exact Sub.nil | refine Sub.cons (by first | exact .here | exact .there .here | exact .there (.there .here) | exact .there (.there (.there .here)) | exact .there (.there (.there (.there .here)))) ?_ | exact Sub.all)
        refine JAll.cons rfl ?_ JAll.nil
        refine JO.new rfl rfl rfl (.none rfl) (En.allocZ (cs := arr32 (List.replicate 8 0)) Tryd.zeroValue110 rfl) (fun b6 hb6 => ?_)
        refine JA.branch [1] (by kernel_rfl) rfl ?_
        refine JAll.cons rfl ?_ JAll.nil
        refine JO.callV rfl (.none rfl) rfl Tryd.call81 (fun w1 hw1 => spread_any a cap l w1 (hm.old hw1) hl hc) ?_
        refine JA.branch [5] (by kernel_rfl) rfl ?_
        refine JAll.cons rfl ?_ JAll.nil
        refine JO.sto rfl rfl (.none rfl) (Es.storeA rfl rfl Tryd.sizeOf116 (by repeat (first | exact .here | apply Upd.there | apply Upd.left)) (by rw [arr32_size, sched_length]) (by first | rfl | exact dig_size _ | (rw [arr8_size]; first | exact sha_length _ | exact shaO_length _ | assumption)) (arr32_one _)) ?_
        refine JA.branch [6] (by kernel_rfl) rfl ?_
        refine JAll.cons rfl ?_ JAll.nil
        refine JO.sto rfl rfl (.none rfl) (Es.storeA rfl rfl Tryd.sizeOf110 (by repeat (first | exact .here | apply Upd.there | apply Upd.left)) (by first | rfl | exact dig_size _ | (rw [arr8_size]; first | exact sha_length _ | exact shaO_length _ | assumption)) (by first | rfl | exact dig_size _ | (rw [arr8_size]; first | exact sha_length _ | exact shaO_length _ | assumption)) (arr32_one _)) ?_
        refine JA.done (by kernel_rfl) ?_
        refine JQ.cutN (b5, b6) ?_ ?_
        · exact Keeps.get (by repeat (first | exact Keeps.nil | refine Keeps.cons rfl ?_))
        · first | exact Sub.all | exact Sub.of_cnt (fun a => by (try dsimp only); simp only [cntA]; omega) | repeat (first | exact Sub.nil | refine Sub.cons (by first | exact .here | exact .there .here | exact .there (.there .here) | exact .there (.there (.there .here)) | exact .there (.there (.there (.there .here)))) ?_ | exact Sub.all)
      refine JAll.cons rfl ?_ JAll.nil
      refine JO.new rfl rfl rfl (.none rfl) (En.allocZ (cs := arr32 (List.replicate 8 0)) Tryd.zeroValue110 rfl) (fun b6 hb6 => ?_)
      refine JA.branch [1, 2] (by kernel_rfl) rfl ?_
      refine JAll.cons rfl ?_ ?_
      · -- 1
        refine JO.callV rfl (.none rfl) rfl Tryd.call81 (fun w1 hw1 => spread_any a cap l w1 (hm.old hw1) hl hc) ?_
        refine JA.branch [2, 5] (by kernel_rfl) rfl ?_
        refine JAll.cons rfl ?_ ?_
        · -- 2
          refine JO.val rfl rfl rfl (.none rfl) (Ev.loadB rfl (by repeat (first | exact List.Mem.head _ | refine List.Mem.tail _ ?_ | refine List.mem_append_right _ ?_ | assumption)) Tryd.underlying110 rfl Tryd.sizeOf110 (by first | rfl | exact dig_size _ | (rw [arr8_size]; first | exact sha_length _ | exact shaO_length _ | assumption))) ?_
          refine JA.branch [5] (by kernel_rfl) rfl ?_
          refine JAll.cons rfl ?_ JAll.nil
          refine JO.sto rfl rfl (.none rfl) (Es.storeA rfl rfl Tryd.sizeOf116 (by repeat (first | exact .here | apply Upd.there | apply Upd.left)) (by rw [arr32_size, sched_length]) (by first | rfl | exact dig_size _ | (rw [arr8_size]; first | exact sha_length _ | exact shaO_length _ | assumption)) (arr32_one _)) ?_
          refine JA.branch [6] (by kernel_rfl) rfl ?_
          refine JAll.cons rfl ?_ JAll.nil
          refine JO.sto rfl rfl (.none rfl) (Es.storeA rfl rfl Tryd.sizeOf110 (by repeat (first | exact .here | apply Upd.there | apply Upd.left)) (by first | rfl | exact dig_size _ | (rw [arr8_size]; first | exact sha_length _ | exact shaO_length _ | assumption)) (by first | rfl | exact dig_size _ | (rw [arr8_size]; first | exact sha_length _ | exact shaO_length _ | assumption)) (arr32_one _)) ?_
          refine JA.done (by kernel_rfl) ?_
          refine JQ.cutN (b5, b6) ?_ ?_
          · exact Keeps.get (by repeat (first | exact Keeps.nil | refine Keeps.cons rfl ?_))
          · first | exact Sub.all | exact Sub.of_cnt (fun a => by (try dsimp only); simp only [cntA]; omega) | repeat (first | exact Sub.nil | refine Sub.cons (by first | exact .here | exact .there .here | exact .there (.there .here) | exact .there (.there (.there .here)) | exact .there (.there (.there (.there .here)))) ?_ | exact Sub.all)
        refine JAll.cons rfl ?_ JAll.nil
        refine JO.sto rfl rfl (.none rfl) (Es.storeA rfl rfl Tryd.sizeOf116 (by repeat (first | exact .here | apply Upd.there | apply Upd.left)) (by rw [arr32_size, sched_length]) (by first | rfl | exact dig_size _ | (rw [arr8_size]; first | exact sha_length _ | exact shaO_length _ | assumption)) (arr32_one _)) ?_
        refine JA.branch [2] (by kernel_rfl) rfl ?_
        refine JAll.cons rfl ?_ JAll.nil
        refine JO.val rfl rfl rfl (.none rfl) (Ev.loadB rfl (by repeat (first | exact List.Mem.head _ | refine List.Mem.tail _ ?_ | refine List.mem_append_right _ ?_ | assumption)) Tryd.underlying110 rfl Tryd.sizeOf110 (by first | rfl | exact dig_size _ | (rw [arr8_size]; first | exact sha_length _ | exact shaO_length _ | assumption))) ?_
        refine JA.branch [6] (by kernel_rfl) rfl ?_
        refine JAll.cons rfl ?_ JAll.nil
        refine JO.sto rfl rfl (.none rfl) (Es.storeA rfl rfl Tryd.sizeOf110 (by repeat (first | exact .here | apply Upd.there | apply Upd.left)) (by first | rfl | exact dig_size _ | (rw [arr8_size]; first | exact sha_length _ | exact shaO_length _ | assumption)) (by first | rfl | exact dig_size _ | (rw [arr8_size]; first | exact sha_length _ | exact shaO_length _ | assumption)) (arr32_one _)) ?_
        refine JA.done (by kernel_rfl) ?_
        refine JQ.cutN (b5, b6) ?_ ?_
        · exact Keeps.get (by repeat (first | exact Keeps.nil | refine Keeps.cons rfl ?_))
        · first | exact Sub.all | exact Sub.of_cnt (fun a => by (try dsimp only); simp only [cntA]; omega) | repeat (first | exact Sub.nil | refine Sub.cons (by first | exact .here | exact .there .here | exact .there (.there .here) | exact .there (.there (.there .here)) | exact .there (.there (.there (.there .here)))) ?_ | exact Sub.all)
      refine JAll.cons rfl ?_ JAll.nil
      refine JO.val rfl rfl rfl (.none rfl) (Ev.loadB rfl (by repeat (first | exact List.Mem.head _ | refine List.Mem.tail _ ?_ | refine List.mem_append_right _ ?_ | assumption)) Tryd.underlying110 rfl Tryd.sizeOf110 (by first | rfl | exact dig_size _ | (rw [arr8_size]; first | exact sha_length _ | exact shaO_length _ | assumption))) ?_
      refine JA.branch [1] (by kernel_rfl) rfl ?_
      refine JAll.cons rfl ?_ JAll.nil
      refine JO.callV rfl (.none rfl) rfl Tryd.call81 (fun w1 hw1 => spread_any a cap l w1 (hm.old hw1) hl hc) ?_
      refine JA.branch [5] (by kernel_rfl) rfl ?_
      refine JAll.cons rfl ?_ JAll.nil
      refine JO.sto rfl rfl (.none rfl) (Es.storeA rfl rfl Tryd.sizeOf116 (by repeat (first | exact .here | apply Upd.there | apply Upd.left)) (by rw [arr32_size, sched_length]) (by first | rfl | exact dig_size _ | (rw [arr8_size]; first | exact sha_length _ | exact shaO_length _ | assumption)) (arr32_one _)) ?_
      refine JA.branch [6] (by kernel_rfl) rfl ?_
      refine JAll.cons rfl ?_ JAll.nil
      refine JO.sto rfl rfl (.none rfl) (Es.storeA rfl rfl Tryd.sizeOf110 (by repeat (first | exact .here | apply Upd.there | apply Upd.left)) (by first | rfl | exact dig_size _ | (rw [arr8_size]; first | exact sha_length _ | exact shaO_length _ | assumption)) (by first | rfl | exact dig_size _ | (rw [arr8_size]; first | exact sha_length _ | exact shaO_length _ | assumption)) (arr32_one _)) ?_
      refine JA.done (by kernel_rfl) ?_
      refine JQ.cutN (b5, b6) ?_ ?_
      · exact Keeps.get (by repeat (first | exact Keeps.nil | refine Keeps.cons rfl ?_))
      · first | exact Sub.all | exact Sub.of_cnt (fun a => by (try dsimp only); simp only [cntA]; omega) | repeat (first | exact Sub.nil | refine Sub.cons (by first | exact .here | exact .there .here | exact .there (.there .here) | exact .there (.there (.there .here)) | exact .there (.there (.there (.there .here)))) ?_ | exact Sub.all)
    refine JAll.cons rfl ?_ JAll.nil
    refine JO.new rfl rfl rfl (.none rfl) (En.allocZ (cs := arr32 (List.replicate 8 0)) Tryd.zeroValue110 rfl) (fun b6 hb6 => ?_)
    refine JA.branch [1, 2, 3] (by kernel_rfl) rfl ?_
    refine JAll.cons rfl ?_ ?_
    · -- 1
      refine JO.callV rfl (.none rfl) rfl Tryd.call81 (fun w1 hw1 => spread_any a cap l w1 (hm.old hw1) hl hc) ?_
      refine JA.branch [2, 3] (by kernel_rfl) rfl ?_
      refine JAll.cons rfl ?_ ?_
      · -- 2
        refine JO.val rfl rfl rfl (.none rfl) (Ev.loadB rfl (by repeat (first | exact List.Mem.head _ | refine List.Mem.tail _ ?_ | refine List.mem_append_right _ ?_ | assumption)) Tryd.underlying110 rfl Tryd.sizeOf110 (by first | rfl | exact dig_size _ | (rw [arr8_size]; first | exact sha_length _ | exact shaO_length _ | assumption))) ?_
        refine JA.branch [3] (by kernel_rfl) rfl ?_
        refine JAll.cons rfl ?_ JAll.nil
        refine JO.new rfl rfl rfl (.none rfl) (En.allocZ (cs := arr32 (List.replicate 64 0)) Tryd.zeroValue116 rfl) (fun b5 hb5 => ?_)
        refine JA.branch [5] (by kernel_rfl) rfl ?_
        refine JAll.cons rfl ?_ JAll.nil
        refine JO.sto rfl rfl (.none rfl) (Es.storeA rfl rfl Tryd.sizeOf116 (by repeat (first | exact .here | apply Upd.there | apply Upd.left)) (by rw [arr32_size, sched_length]) (by first | rfl | exact dig_size _ | (rw [arr8_size]; first | exact sha_length _ | exact shaO_length _ | assumption)) (arr32_one _)) ?_
        refine JA.branch [6] (by kernel_rfl) rfl ?_
        refine JAll.cons rfl ?_ JAll.nil
        refine JO.sto rfl rfl (.none rfl) (Es.storeA rfl rfl Tryd.sizeOf110 (by repeat (first | exact .here | apply Upd.there | apply Upd.left)) (by first | rfl | exact dig_size _ | (rw [arr8_size]; first | exact sha_length _ | exact shaO_length _ | assumption)) (by first | rfl | exact dig_size _ | (rw [arr8_size]; first | exact sha_length _ | exact shaO_length _ | assumption)) (arr32_one _)) ?_
        refine JA.done (by kernel_rfl) ?_
        refine JQ.cutN (b5, b6) ?_ ?_
        · exact Keeps.get (by repeat (first | exact Keeps.nil | refine Keeps.cons rfl ?_))
        · first | exact Sub.all | exact Sub.of_cnt (fun a => by (try dsimp only); simp only [cntA]; omega) | repeat (first | exact Sub.nil | refine Sub.cons (by first | exact .here | exact .there .here | exact .there (.there .here) | exact .there (.there (.there .here)) | exact .there (.there (.there (.there .here)))) ?_ | exact Sub.all)
      refine JAll.cons rfl ?_ JAll.nil
      refine JO.new rfl rfl rfl (.none rfl) (En.allocZ (cs := arr32 (List.replicate 64 0)) Tryd.zeroValue116 rfl) (fun b5 hb5 => ?_)
      refine JA.branch [2, 5] (by kernel_rfl) rfl ?_
      refine JAll.cons rfl ?_ ?_
      · -- 2
        refine JO.val rfl rfl rfl (.none rfl) (Ev.loadB rfl (by repeat (first | exact List.Mem.head _ | refine List.Mem.tail _ ?_ | refine List.mem_append_right _ ?_ | assumption)) Tryd.underlying110 rfl Tryd.sizeOf110 (by first | rfl | exact dig_size _ | (rw [arr8_size]; first | exact sha_length _ | exact shaO_length _ | assumption))) ?_
        refine JA.branch [5] (by kernel_rfl) rfl ?_
        refine JAll.cons rfl ?_ JAll.nil
        refine JO.sto rfl rfl (.none rfl) (Es.storeA rfl rfl Tryd.sizeOf116 (by repeat (first | exact .here | apply Upd.there | apply Upd.left)) (by rw [arr32_size, sched_length]) (by first | rfl | exact dig_size _ | (rw [arr8_size]; first | exact sha_length _ | exact shaO_length _ | assumption)) (arr32_one _)) ?_
        refine JA.branch [6] (by kernel_rfl) rfl ?_
        refine JAll.cons rfl ?_ JAll.nil
        refine JO.sto rfl rfl (.none rfl) (Es.storeA rfl rfl Tryd.sizeOf110 (by repeat (first | exact .here | apply Upd.there | apply Upd.left)) (by first | rfl | exact dig_size _ | (rw [arr8_size]; first | exact sha_length _ | exact shaO_length _ | assumption)) (by first | rfl | exact dig_size _ | (rw [arr8_size]; first | exact sha_length _ | exact shaO_length _ | assumption)) (arr32_one _)) ?_
        refine JA.done (by kernel_rfl) ?_
        refine JQ.cutN (b5, b6) ?_ ?_
        · exact Keeps.get (by repeat (first | exact Keeps.nil | refine Keeps.cons rfl ?_))
        · first | exact Sub.all | exact Sub.of_cnt (fun a => by (try dsimp only); simp only [cntA]; omega) | repeat (first | exact Sub.nil | refine Sub.cons (by first | exact .here | exact .there .here | exact .there (.there .here) | exact .there (.there (.there .here)) | exact .there (.there (.there (.there .here)))) ?_ | exact Sub.all)
      refine JAll.cons rfl ?_ JAll.nil
      refine JO.sto rfl rfl (.none rfl) (Es.storeA rfl rfl Tryd.sizeOf116 (by repeat (first | exact .here | apply Upd.there | apply Upd.left)) (by rw [arr32_size, sched_length]) (by first | rfl | exact dig_size _ | (rw [arr8_size]; first | exact sha_length _ | exact shaO_length _ | assumption)) (arr32_one _)) ?_
      refine JA.branch [2] (by kernel_rfl) rfl ?_
      refine JAll.cons rfl ?_ JAll.nil
      refine JO.val rfl rfl rfl (.none rfl) (Ev.loadB rfl (by repeat (first | exact List.Mem.head _ | refine List.Mem.tail _ ?_ | refine List.mem_append_right _ ?_ | assumption)) Tryd.underlying110 rfl Tryd.sizeOf110 (by first | rfl | exact dig_size _ | (rw [arr8_size]; first | exact sha_length _ | exact shaO_length _ | assumption))) ?_
      refine JA.branch [6] (by kernel_rfl) rfl ?_
      refine JAll.cons rfl ?_ JAll.nil
      refine JO.sto rfl rfl (.none rfl) (Es.storeA rfl rfl Tryd.sizeOf110 (by repeat (first | exact .here | apply Upd.there | apply Upd.left)) (by first | rfl | exact dig_size _ | (rw [arr8_size]; first | exact sha_length _ | exact shaO_length _ | assumption)) (by first | rfl | exact dig_size _ | (rw [arr8_size]; first | exact sha_length _ | exact shaO_length _ | assumption)) (arr32_one _)) ?_
      refine JA.done (by kernel_rfl) ?_
      refine JQ.cutN (b5, b6) ?_ ?_
      · exact Keeps.get (by repeat (first | exact Keeps.nil | refine Keeps.cons rfl ?_))
      · first | exact Sub.all | exact Sub.of_cnt (fun a => by (try dsimp only); simp only [cntA]; omega) | repeat (first | exact Sub.nil | refine Sub.cons (by first | exact .here | exact .there .here | exact .there (.there .here) | exact .there (.there (.there .here)) | exact .there (.there (.there (.there .here)))) ?_ | exact Sub.all)
    refine JAll.cons rfl ?_ ?_
    · -- 2
      refine JO.val rfl rfl rfl (.none rfl) (Ev.loadB rfl (by repeat (first | exact List.Mem.head _ | refine List.Mem.tail _ ?_ | refine List.mem_append_right _ ?_ | assumption)) Tryd.underlying110 rfl Tryd.sizeOf110 (by first | rfl | exact dig_size _ | (rw [arr8_size]; first | exact sha_length _ | exact shaO_length _ | assumption))) ?_
      refine JA.branch [1, 3] (by kernel_rfl) rfl ?_
      refine JAll.cons rfl ?_ ?_
      · -- 1
        refine JO.callV rfl (.none rfl) rfl Tryd.call81 (fun w1 hw1 => spread_any a cap l w1 (hm.old hw1) hl hc) ?_
        refine JA.branch [3] (by kernel_rfl) rfl ?_
        refine JAll.cons rfl ?_ JAll.nil
        refine JO.new rfl rfl rfl (.none rfl) (En.allocZ (cs := arr32 (List.replicate 64 0)) Tryd.zeroValue116 rfl) (fun b5 hb5 => ?_)
        refine JA.branch [5] (by kernel_rfl) rfl ?_
        refine JAll.cons rfl ?_ JAll.nil
        refine JO.sto rfl rfl (.none rfl) (Es.storeA rfl rfl Tryd.sizeOf116 (by repeat (first | exact .here | apply Upd.there | apply Upd.left)) (by rw [arr32_size, sched_length]) (by first | rfl | exact dig_size _ | (rw [arr8_size]; first | exact sha_length _ | exact shaO_length _ | assumption)) (arr32_one _)) ?_
        refine JA.branch [6] (by kernel_rfl) rfl ?_
        refine JAll.cons rfl ?_ JAll.nil
        refine JO.sto rfl rfl (.none rfl) (Es.storeA rfl rfl Tryd.sizeOf110 (by repeat (first | exact .here | apply Upd.there | apply Upd.left)) (by first | rfl | exact dig_size _ | (rw [arr8_size]; first | exact sha_length _ | exact shaO_length _ | assumption)) (by first | rfl | exact dig_size _ | (rw [arr8_size]; first | exact sha_length _ | exact shaO_length _ | assumption)) (arr32_one _)) ?_
        refine JA.done (by kernel_rfl) ?_
        refine JQ.cutN (b5, b6) ?_ ?_
        · exact Keeps.get (by repeat (first | exact Keeps.nil | refine Keeps.cons rfl ?_))
        · first | exact Sub.all | exact Sub.of_cnt (fun a => by (try dsimp only); simp only [cntA]; omega) | repeat (first | exact Sub.nil | refine Sub.cons (by first | exact .here | exact .there .here | exact .there (.there .here) | exact .there (.there (.there .here)) | exact .there (.there (.there (.there .here)))) ?_ | exact Sub.all)
      refine JAll.cons rfl ?_ JAll.nil
      refine JO.new rfl rfl rfl (.none rfl) (En.allocZ (cs := arr32 (List.replicate 64 0)) Tryd.zeroValue116 rfl) (fun b5 hb5 => ?_)
      refine JA.branch [1] (by kernel_rfl) rfl ?_
      refine JAll.cons rfl ?_ JAll.nil
      refine JO.callV rfl (.none rfl) rfl Tryd.call81 (fun w1 hw1 => spread_any a cap l w1 (hm.old hw1) hl hc) ?_
      refine JA.branch [5] (by kernel_rfl) rfl ?_
      refine JAll.cons rfl ?_ JAll.nil
      refine JO.sto rfl rfl (.none rfl) (Es.storeA rfl rfl Tryd.sizeOf116 (by repeat (first | exact .here | apply Upd.there | apply Upd.left)) (by rw [arr32_size, sched_length]) (by first | rfl | exact dig_size _ | (rw [arr8_size]; first | exact sha_length _ | exact shaO_length _ | assumption)) (arr32_one _)) ?_
      refine JA.branch [6] (by kernel_rfl) rfl ?_
      refine JAll.cons rfl ?_ JAll.nil
      refine JO.sto rfl rfl (.none rfl) (Es.storeA rfl rfl Tryd.sizeOf110 (by repeat (first | exact .here | apply Upd.there | apply Upd.left)) (by first | rfl | exact dig_size _ | (rw [arr8_size]; first | exact sha_length _ | exact shaO_length _ | assumption)) (by first | rfl | exact dig_size _ | (rw [arr8_size]; first | exact sha_length _ | exact shaO_length _ | assumption)) (arr32_one _)) ?_
      refine JA.done (by kernel_rfl) ?_
      refine JQ.cutN (b5, b6) ?_ ?_
      · exact Keeps.get (by repeat (first | exact Keeps.nil | refine Keeps.cons rfl ?_))
      · first | exact Sub.all | exact Sub.of_cnt (fun a => by (try dsimp only); simp only [cntA]; omega) | repeat (first | exact Sub.nil | refine Sub.cons (by first | exact .here | exact .there .here | exact .there (.there .here) | exact .there (.there (.there .here)) | exact .there (.there (.there (.there .here)))) ?_ | exact Sub.all)
    refine JAll.cons rfl ?_ JAll.nil
    refine JO.new rfl rfl rfl (.none rfl) (En.allocZ (cs := arr32 (List.replicate 64 0)) Tryd.zeroValue116 rfl) (fun b5 hb5 => ?_)
    refine JA.branch [1, 2] (by kernel_rfl) rfl ?_
    refine JAll.cons rfl ?_ ?_
    · -- 1
      refine JO.callV rfl (.none rfl) rfl Tryd.call81 (fun w1 hw1 => spread_any a cap l w1 (hm.old hw1) hl hc) ?_
      refine JA.branch [2, 5] (by kernel_rfl) rfl ?_
      refine JAll.cons rfl ?_ ?_
      · -- 2
        refine JO.val rfl rfl rfl (.none rfl) (Ev.loadB rfl (by repeat (first | exact List.Mem.head _ | refine List.Mem.tail _ ?_ | refine List.mem_append_right _ ?_ | assumption)) Tryd.underlying110 rfl Tryd.sizeOf110 (by first | rfl | exact dig_size _ | (rw [arr8_size]; first | exact sha_length _ | exact shaO_length _ | assumption))) ?_
        refine JA.branch [5] (by kernel_rfl) rfl ?_
        refine JAll.cons rfl ?_ JAll.nil
        refine JO.sto rfl rfl (.none rfl) (Es.storeA rfl rfl Tryd.sizeOf116 (by repeat (first | exact .here | apply Upd.there | apply Upd.left)) (by rw [arr32_size, sched_length]) (by first | rfl | exact dig_size _ | (rw [arr8_size]; first | exact sha_length _ | exact shaO_length _ | assumption)) (arr32_one _)) ?_
        refine JA.branch [6] (by kernel_rfl) rfl ?_
        refine JAll.cons rfl ?_ JAll.nil
        refine JO.sto rfl rfl (.none rfl) (Es.storeA rfl rfl Tryd.sizeOf110 (by repeat (first | exact .here | apply Upd.there | apply Upd.left)) (by first | rfl | exact dig_size _ | (rw [arr8_size]; first | exact sha_length _ | exact shaO_length _ | assumption)) (by first | rfl | exact dig_size _ | (rw [arr8_size]; first | exact sha_length _ | exact shaO_length _ | assumption)) (arr32_one _)) ?_
        refine JA.done (by kernel_rfl) ?_
        refine JQ.cutN (b5, b6) ?_ ?_
        · exact Keeps.get (by repeat (first | exact Keeps.nil | refine Keeps.cons rfl ?_))
        · first | exact Sub.all | exact Sub.of_cnt (fun a => by (try dsimp only); simp only [cntA]; omega) | repeat (first | exact Sub.nil | refine Sub.cons (by first | exact .here | exact .there .here | exact .there (.there .here) | exact .there (.there (.there .here)) | exact .there (.there (.there (.there .here)))) ?_ | exact Sub.all)
      refine JAll.cons rfl ?_ JAll.nil
      refine JO.sto rfl rfl (.none rfl) (Es.storeA rfl rfl Tryd.sizeOf116 (by repeat (first | exact .here | apply Upd.there | apply Upd.left)) (by rw [arr32_size, sched_length]) (by first | rfl | exact dig_size _ | (rw [arr8_size]; first | exact sha_length _ | exact shaO_length _ | assumption)) (arr32_one _)) ?_
      refine JA.branch [2] (by kernel_rfl) rfl ?_
      refine JAll.cons rfl ?_ JAll.nil
      refine JO.val rfl rfl rfl (.none rfl) (Ev.loadB rfl (by repeat (first | exact List.Mem.head _ | refine List.Mem.tail _ ?_ | refine List.mem_append_right _ ?_ | assumption)) Tryd.underlying110 rfl Tryd.sizeOf110 (by first | rfl | exact dig_size _ | (rw [arr8_size]; first | exact sha_length _ | exact shaO_length _ | assumption))) ?_
      refine JA.branch [6] (by kernel_rfl) rfl ?_
      refine JAll.cons rfl ?_ JAll.nil
      refine JO.sto rfl rfl (.none rfl) (Es.storeA rfl rfl Tryd.sizeOf110 (by repeat (first | exact .here | apply Upd.there | apply Upd.left)) (by first | rfl | exact dig_size _ | (rw [arr8_size]; first | exact sha_length _ | exact shaO_length _ | assumption)) (by first | rfl | exact dig_size _ | (rw [arr8_size]; first | exact sha_length _ | exact shaO_length _ | assumption)) (arr32_one _)) ?_
      refine JA.done (by kernel_rfl) ?_
      refine JQ.cutN (b5, b6) ?_ ?_
      · exact Keeps.get (by repeat (first | exact Keeps.nil | refine Keeps.cons rfl ?_))
      · first | exact Sub.all | exact Sub.of_cnt (fun a => by (try dsimp only); simp only [cntA]; omega) | repeat (first | exact Sub.nil | refine Sub.cons (by first | exact .here | exact .there .here | exact .there (.there .here) | exact .there (.there (.there .here)) | exact .there (.there (.there (.there .here)))) ?_ | exact Sub.all)
    refine JAll.cons rfl ?_ JAll.nil
    refine JO.val rfl rfl rfl (.none rfl) (Ev.loadB rfl (by repeat (first | exact List.Mem.head _ | refine List.Mem.tail _ ?_ | refine List.mem_append_right _ ?_ | assumption)) Tryd.underlying110 rfl Tryd.sizeOf110 (by first | rfl | exact dig_size _ | (rw [arr8_size]; first | exact sha_length _ | exact shaO_length _ | assumption))) ?_
    refine JA.branch [1] (by kernel_rfl) rfl ?_
    refine JAll.cons rfl ?_ JAll.nil
    refine JO.callV rfl (.none rfl) rfl Tryd.call81 (fun w1 hw1 => spread_any a cap l w1 (hm.old hw1) hl hc) ?_
    refine JA.branch [5] (by kernel_rfl) rfl ?_
    refine JAll.cons rfl ?_ JAll.nil
    refine JO.sto rfl rfl (.none rfl) (Es.storeA rfl rfl Tryd.sizeOf116 (by repeat (first | exact .here | apply Upd.there | apply Upd.left)) (by rw [arr32_size, sched_length]) (by first | rfl | exact dig_size _ | (rw [arr8_size]; first | exact sha_length _ | exact shaO_length _ | assumption)) (arr32_one _)) ?_
    refine JA.branch [6] (by kernel_rfl) rfl ?_
    refine JAll.cons rfl ?_ JAll.nil
    refine JO.sto rfl rfl (.none rfl) (Es.storeA rfl rfl Tryd.sizeOf110 (by repeat (first | exact .here | apply Upd.there | apply Upd.left)) (by first | rfl | exact dig_size _ | (rw [arr8_size]; first | exact sha_length _ | exact shaO_length _ | assumption)) (by first | rfl | exact dig_size _ | (rw [arr8_size]; first | exact sha_length _ | exact shaO_length _ | assumption)) (arr32_one _)) ?_
    refine JA.done (by kernel_rfl) ?_
    refine JQ.cutN (b5, b6) ?_ ?_
    · exact Keeps.get (by repeat (first | exact Keeps.nil | refine Keeps.cons rfl ?_))
    · first | exact Sub.all | exact Sub.of_cnt (fun a => by (try dsimp only); simp only [cntA]; omega) | repeat (first | exact Sub.nil | refine Sub.cons (by first | exact .here | exact .there .here | exact .there (.there .here) | exact .there (.there (.there .here)) | exact .there (.there (.there (.there .here)))) ?_ | exact Sub.all)
  rintro ⟨b5, b6⟩
  refine JQ.thenN ?_
  refine JC.seq ?_
  refine JC.seq ?_
  -- region 2
  refine JC.region ?_
  refine JL.val rfl rfl rfl (.none rfl) (Ev.move rfl) ?_
  refine JL.nil ?_
  refine JQ.thenN ?_
  refine JC.block ?_
  refine JC.loop (X := Nat)
    (fun k => [(2, .pointer (some ⟨b2, 0, none⟩)), (4, .pointer (some ⟨b4, 0, none⟩)), (5, .pointer (some ⟨b5, 0, none⟩)), (6, .pointer (some ⟨b6, 0, none⟩)), (16, .int .i64 (k : Int))])
    (fun k => [(b6, .cells (arr32 (rounds s l k).l) 110 (0, 0)), (b5, .cells (arr32 (sched l 64)) 116 (0, 0)), (b4, .cells (arr32 (List.replicate 8 0)) 110 (0, 0)), (b2, .cells (arr32 s.l) 110 (0, 0))])
    (fun k => k ≤ 64)
    (fun k => 64 - k) 0 ?_ ?_ ?_ ?_
  · exact Keeps.get (by repeat (first | exact Keeps.nil | refine Keeps.cons rfl ?_))
  · first | exact Sub.all | exact Sub.of_cnt (fun a => by (try dsimp only); simp only [cntA]; omega) | repeat (first | exact Sub.nil | refine Sub.cons (by first | exact .here | exact .there .here | exact .there (.there .here) | exact .there (.there (.there .here)) | exact .there (.there (.there (.there .here)))) ?_ | exact Sub.all)
  · omega
  rintro k hk64
  refine JC.seq ?_
  -- region 3
  refine JC.region ?_
  refine JL.val rfl rfl rfl (.none rfl) (Ev.bin rfl rfl lss_int) ?_
  refine JL.nil ?_
  refine JQ.thenN ?_
  refine JC.seq ?_
  refine JC.cond rfl (fun hc1 => ?_) (fun hc1 => ?_)
  · -- t17 True
    replace hc1 := of_decide_eq_true hc1
    refine JC.skip ?_
    refine JQ.thenN ?_
    refine JC.seq ?_
    refine JC.block ?_
    refine JC.seq ?_
    -- region 4
    refine JC.region ?_
    refine JL.val rfl rfl rfl (.none rfl) (Ev.move rfl) ?_
    refine JL.val rfl rfl rfl (.none rfl) (Ev.assign rfl) ?_
    refine JL.nil ?_
    refine JQ.thenN ?_
    refine JC.seq ?_
    -- region 5
    refine JC.regionQ (by kernel_rfl) (by kernel_rfl) ?_
    refine JW.val rfl rfl (.none rfl) (Ev.idxB1 (k := 0) rfl rfl Tryd.underlying110 Tryd.sizeOf41 rfl (by omega)) ?_
    refine JW.val rfl rfl (.none rfl) (Ev.load1 rfl Tryd.underlying41 rfl (Rd.own (by repeat (first | exact List.Mem.head _ | refine List.Mem.tail _ ?_ | refine List.mem_append_right _ ?_ | assumption)) rfl)) ?_
    refine JW.val rfl rfl (.none rfl) (Ev.idxB1 (k := 4) rfl rfl Tryd.underlying110 Tryd.sizeOf41 rfl (by omega)) ?_
    refine JW.val rfl rfl (.none rfl) (Ev.load1 rfl Tryd.underlying41 rfl (Rd.own (by repeat (first | exact List.Mem.head _ | refine List.Mem.tail _ ?_ | refine List.mem_append_right _ ?_ | assumption)) rfl)) ?_
    refine JW.val rfl rfl (.none rfl) (Ev.assign rfl) ?_
    refine JW.val rfl rfl (.none rfl) (Ev.assign rfl) ?_
    refine JW.nilQ ?_
    refine JQ.thenN ?_
    refine JC.seq ?_
    -- region 6
    refine JC.regionQ (by kernel_rfl) (by kernel_rfl) ?_
    refine JW.val rfl rfl (.none rfl) (Ev.idxB1 (k := 7) rfl rfl Tryd.underlying110 Tryd.sizeOf41 rfl (by omega)) ?_
    refine JW.val rfl rfl (.none rfl) (Ev.load1 rfl Tryd.underlying41 rfl (Rd.own (by repeat (first | exact List.Mem.head _ | refine List.Mem.tail _ ?_ | refine List.mem_append_right _ ?_ | assumption)) rfl)) ?_
    refine JW.val rfl rfl (.none rfl) (Ev.move rfl) ?_
    refine JW.call rfl (.none rfl) rfl Tryd.call82 (fun w1 hw1 => right_any _ 6 (by decide) (by decide) w1) ?_
    refine JW.val rfl rfl (.none rfl) (Ev.move rfl) ?_
    refine JW.call rfl (.none rfl) rfl Tryd.call82 (fun w1 hw1 => right_any _ 11 (by decide) (by decide) w1) ?_
    refine JW.val rfl rfl (.none rfl) (Ev.bin rfl rfl xor_u32) ?_
    refine JW.val rfl rfl (.none rfl) (Ev.move rfl) ?_
    refine JW.call rfl (.none rfl) rfl Tryd.call82 (fun w1 hw1 => right_any _ 25 (by decide) (by decide) w1) ?_
    refine JW.val rfl rfl (.none rfl) (Ev.bin rfl rfl xor_u32) ?_
    refine JW.val rfl rfl (.none rfl) (Ev.bin rfl rfl add_u32) ?_
    refine JW.val rfl rfl (.none rfl) (Ev.idxB1 (k := 6) rfl rfl Tryd.underlying110 Tryd.sizeOf41 rfl (by omega)) ?_
    refine JW.val rfl rfl (.none rfl) (Ev.load1 rfl Tryd.underlying41 rfl (Rd.own (by repeat (first | exact List.Mem.head _ | refine List.Mem.tail _ ?_ | refine List.mem_append_right _ ?_ | assumption)) rfl)) ?_
    refine JW.val rfl rfl (.none rfl) (Ev.move rfl) ?_
    refine JW.val rfl rfl (.none rfl) (Ev.idxB1 (k := 5) rfl rfl Tryd.underlying110 Tryd.sizeOf41 rfl (by omega)) ?_
    refine JW.val rfl rfl (.none rfl) (Ev.load1 rfl Tryd.underlying41 rfl (Rd.own (by repeat (first | exact List.Mem.head _ | refine List.Mem.tail _ ?_ | refine List.mem_append_right _ ?_ | assumption)) rfl)) ?_
    refine JW.val rfl rfl (.none rfl) (Ev.idxB1 (k := 6) rfl rfl Tryd.underlying110 Tryd.sizeOf41 rfl (by omega)) ?_
    refine JW.val rfl rfl (.none rfl) (Ev.load1 rfl Tryd.underlying41 rfl (Rd.own (by repeat (first | exact List.Mem.head _ | refine List.Mem.tail _ ?_ | refine List.mem_append_right _ ?_ | assumption)) rfl)) ?_
    refine JW.val rfl rfl (.none rfl) (Ev.bin rfl rfl xor_u32) ?_
    refine JW.val rfl rfl (.none rfl) (Ev.bin rfl rfl and_u32) ?_
    refine JW.val rfl rfl (.none rfl) (Ev.bin rfl rfl xor_u32) ?_
    refine JW.val rfl rfl (.none rfl) (Ev.bin rfl rfl add_u32) ?_
    refine JW.val rfl rfl (.none rfl) (Ev.move rfl) ?_
    refine JW.val rfl rfl (.none rfl) (Ev.idxB1 rfl rfl Tryd.underlying116 Tryd.sizeOf41 (k := k) rfl (by omega)) ?_
    refine JW.val rfl rfl (.none rfl) (Ev.load1 rfl Tryd.underlying41 rfl (Rd.old (hk.at (by omega)))) ?_
    refine JW.val rfl rfl (.none rfl) (Ev.bin rfl rfl add_u32) ?_
    refine JW.val rfl rfl (.none rfl) (Ev.move rfl) ?_
    refine JW.val rfl rfl (.none rfl) (Ev.idxB1 rfl rfl Tryd.underlying116 Tryd.sizeOf41 (k := k) rfl (by omega)) ?_
    refine JW.val rfl rfl (.none rfl) (Ev.load1 rfl Tryd.underlying41 rfl (Rd.own (by repeat (first | exact List.Mem.head _ | refine List.Mem.tail _ ?_ | refine List.mem_append_right _ ?_ | assumption)) (sched_at l (by omega)))) ?_
    refine JW.val rfl rfl (.none rfl) (Ev.bin rfl rfl add_u32) ?_
    refine JW.val rfl rfl (.none rfl) (Ev.assign rfl) ?_
    refine JW.nilQ ?_
    refine JQ.thenN ?_
    refine JC.seq ?_
    -- region 7
    refine JC.regionQ (by kernel_rfl) (by kernel_rfl) ?_
    refine JW.val rfl rfl (.none rfl) (Ev.move rfl) ?_
    refine JW.call rfl (.none rfl) rfl Tryd.call82 (fun w1 hw1 => right_any _ 2 (by decide) (by decide) w1) ?_
    refine JW.val rfl rfl (.none rfl) (Ev.move rfl) ?_
    refine JW.call rfl (.none rfl) rfl Tryd.call82 (fun w1 hw1 => right_any _ 13 (by decide) (by decide) w1) ?_
    refine JW.val rfl rfl (.none rfl) (Ev.bin rfl rfl xor_u32) ?_
    refine JW.val rfl rfl (.none rfl) (Ev.move rfl) ?_
    refine JW.call rfl (.none rfl) rfl Tryd.call82 (fun w1 hw1 => right_any _ 22 (by decide) (by decide) w1) ?_
    refine JW.val rfl rfl (.none rfl) (Ev.bin rfl rfl xor_u32) ?_
    refine JW.val rfl rfl (.none rfl) (Ev.move rfl) ?_
    refine JW.val rfl rfl (.none rfl) (Ev.idxB1 (k := 1) rfl rfl Tryd.underlying110 Tryd.sizeOf41 rfl (by omega)) ?_
    refine JW.val rfl rfl (.none rfl) (Ev.load1 rfl Tryd.underlying41 rfl (Rd.own (by repeat (first | exact List.Mem.head _ | refine List.Mem.tail _ ?_ | refine List.mem_append_right _ ?_ | assumption)) rfl)) ?_
    refine JW.val rfl rfl (.none rfl) (Ev.idxB1 (k := 2) rfl rfl Tryd.underlying110 Tryd.sizeOf41 rfl (by omega)) ?_
    refine JW.val rfl rfl (.none rfl) (Ev.load1 rfl Tryd.underlying41 rfl (Rd.own (by repeat (first | exact List.Mem.head _ | refine List.Mem.tail _ ?_ | refine List.mem_append_right _ ?_ | assumption)) rfl)) ?_
    refine JW.val rfl rfl (.none rfl) (Ev.bin rfl rfl or_u32) ?_
    refine JW.val rfl rfl (.none rfl) (Ev.bin rfl rfl and_u32) ?_
    refine JW.val rfl rfl (.none rfl) (Ev.idxB1 (k := 1) rfl rfl Tryd.underlying110 Tryd.sizeOf41 rfl (by omega)) ?_
    refine JW.val rfl rfl (.none rfl) (Ev.load1 rfl Tryd.underlying41 rfl (Rd.own (by repeat (first | exact List.Mem.head _ | refine List.Mem.tail _ ?_ | refine List.mem_append_right _ ?_ | assumption)) rfl)) ?_
    refine JW.val rfl rfl (.none rfl) (Ev.idxB1 (k := 2) rfl rfl Tryd.underlying110 Tryd.sizeOf41 rfl (by omega)) ?_
    refine JW.val rfl rfl (.none rfl) (Ev.load1 rfl Tryd.underlying41 rfl (Rd.own (by repeat (first | exact List.Mem.head _ | refine List.Mem.tail _ ?_ | refine List.mem_append_right _ ?_ | assumption)) rfl)) ?_
    refine JW.val rfl rfl (.none rfl) (Ev.bin rfl rfl and_u32) ?_
    refine JW.val rfl rfl (.none rfl) (Ev.bin rfl rfl or_u32) ?_
    refine JW.val rfl rfl (.none rfl) (Ev.bin rfl rfl add_u32) ?_
    refine JW.val rfl rfl (.none rfl) (Ev.assign rfl) ?_
    refine JW.nilQ ?_
    refine JQ.thenN ?_
    refine JC.seq ?_
    -- region 8
    refine JC.regionT 2 (by kernel_rfl) (by kernel_rfl) (List.take_append_drop 2 _).symm rfl ?_
    refine JW.val rfl rfl (.none rfl) (Ev.sliceALo rfl rfl Tryd.underlying110 Tryd.sizeOf41 (l := 1) rfl (by omega)) ?_
    refine JW.val rfl rfl (.none rfl) (Ev.sliceAHi rfl rfl Tryd.underlying110 Tryd.sizeOf41 (h := 7) rfl (by omega)) ?_
    refine JW.tail ?_
    refine JL.gen rfl rfl rfl (.none rfl) (Eg.copy (b := b6) (n := 7) (o := 1) (l := ((rounds s l k).l.take 7).map u32) rfl rfl Tryd.underlying122 Tryd.sizeOf41 (by repeat (first | exact .here | apply Upd.there | apply Upd.left)) rfl rfl (Rds.own (by repeat (first | exact List.Mem.head _ | refine List.Mem.tail _ ?_ | refine List.mem_append_right _ ?_ | assumption)) (arr32_pre _ 7)) (by show 8 ≤ 8; omega) (fun u hu => arr32_one _ u (List.mem_of_mem_take (by simpa [arr32, List.map_take] using hu)))) ?_
    rintro _ _ ⟨rfl, rfl⟩
    refine JL.reH (o' := .cells (arr32 [(rounds s l k).a, (rounds s l k).a, (rounds s l k).b, (rounds s l k).c, (rounds s l k).d, (rounds s l k).e, (rounds s l k).f, (rounds s l k).g]) 110 (0, 0)) .here rfl ?_
    refine JL.nil ?_
    refine JQ.thenN ?_
    refine JC.seq ?_
    -- region 9
    refine JC.region ?_
    refine JL.val rfl rfl rfl (.none rfl) (Ev.idxB1 (k := 4) rfl rfl Tryd.underlying110 Tryd.sizeOf41 rfl (by omega)) ?_
    refine JL.val rfl rfl rfl (.none rfl) (Ev.load1 rfl Tryd.underlying41 rfl (Rd.own (by repeat (first | exact List.Mem.head _ | refine List.Mem.tail _ ?_ | refine List.mem_append_right _ ?_ | assumption)) rfl)) ?_
    refine JL.val rfl rfl rfl (.none rfl) (Ev.move rfl) ?_
    refine JL.val rfl rfl rfl (.none rfl) (Ev.bin rfl rfl add_u32) ?_
    refine JL.val rfl rfl rfl (.none rfl) (Ev.idxB1 (k := 4) rfl rfl Tryd.underlying110 Tryd.sizeOf41 rfl (by omega)) ?_
    refine JL.sto rfl rfl (.none rfl) (Es.store1 rfl rfl Tryd.sizeOf41 rfl rfl (by repeat (first | exact .here | apply Upd.there | apply Upd.left)) (by show 4 < 8; omega)) ?_
    refine JL.nil ?_
    refine JQ.thenN ?_
    -- region 10
    refine JC.region ?_
    refine JL.val rfl rfl rfl (.none rfl) (Ev.move rfl) ?_
    refine JL.val rfl rfl rfl (.none rfl) (Ev.move rfl) ?_
    refine JL.val rfl rfl rfl (.none rfl) (Ev.bin rfl rfl add_u32) ?_
    refine JL.val rfl rfl rfl (.none rfl) (Ev.idxB1 (k := 0) rfl rfl Tryd.underlying110 Tryd.sizeOf41 rfl (by omega)) ?_
    refine JL.sto rfl rfl (.none rfl) (Es.store1 rfl rfl Tryd.sizeOf41 rfl rfl (by repeat (first | exact .here | apply Upd.there | apply Upd.left)) (by show 0 < 8; omega)) ?_
    refine JL.nil ?_
    refine JQ.blockN ?_
    refine JQ.thenN ?_
    -- region 11
    refine JC.region ?_
    refine JL.val rfl rfl rfl (.none rfl) (Ev.bin rfl rfl (add_i64 (by omega))) ?_
    refine JL.val rfl rfl rfl (.none rfl) (Ev.move rfl) ?_
    refine JL.nil ?_
    refine JQ.reH (o' := .cells (arr32 (rounds s l (k + 1)).l) 110 (0, 0)) .here rfl ?_
    refine JQ.loopN (k + 1) ?_ ?_ ?_ ?_
    · exact Keeps.get (by repeat (first | exact Keeps.nil | refine Keeps.cons rfl ?_))
    · first | exact Sub.all | exact Sub.of_cnt (fun a => by (try dsimp only); simp only [cntA]; omega) | repeat (first | exact Sub.nil | refine Sub.cons (by first | exact .here | exact .there .here | exact .there (.there .here) | exact .there (.there (.there .here)) | exact .there (.there (.there (.there .here)))) ?_ | exact Sub.all)
    · omega
    · omega
  · -- t17 False
    replace hc1 := of_decide_eq_false hc1
    refine JC.exit ?_
    refine JQ.thenE ?_
    refine JQ.thenE ?_
    refine JQ.blockE ?_
    refine JQ.thenN ?_
    refine JC.seq ?_
    refine JC.seq ?_
    -- region 12
    refine JC.region ?_
    refine JL.val rfl rfl rfl (.none rfl) (Ev.move rfl) ?_
    refine JL.nil ?_
    refine JQ.thenN ?_
    refine JC.block ?_
    obtain rfl : k = 64 := by omega
    refine JC.loop (X := Nat)
      (fun k => [(2, .pointer (some ⟨b2, 0, none⟩)), (4, .pointer (some ⟨b4, 0, none⟩)), (6, .pointer (some ⟨b6, 0, none⟩)), (88, .int .i64 (k : Int))])
      (fun k => [(b6, .cells (arr32 (rounds s l 64).l) 110 (0, 0)), (b4, .cells (arr32 (List.replicate 8 0)) 110 (0, 0)), (b2, .cells (arr32 (addK s (rounds s l 64) k)) 110 (0, 0))])
      (fun k => k ≤ 8)
      (fun k => 8 - k) 0 ?_ ?_ ?_ ?_
    · exact Keeps.get (by repeat (first | exact Keeps.nil | refine Keeps.cons rfl ?_))
    · first | exact Sub.all | exact Sub.of_cnt (fun a => by (try dsimp only); simp only [cntA]; omega) | repeat (first | exact Sub.nil | refine Sub.cons (by first | exact .here | exact .there .here | exact .there (.there .here) | exact .there (.there (.there .here)) | exact .there (.there (.there (.there .here)))) ?_ | exact Sub.all)
    · omega
    rintro k hk8
    refine JC.seq ?_
    -- region 13
    refine JC.region ?_
    refine JL.val rfl rfl rfl (.none rfl) (Ev.bin rfl rfl lss_int) ?_
    refine JL.nil ?_
    refine JQ.thenN ?_
    refine JC.seq ?_
    refine JC.cond rfl (fun hc2 => ?_) (fun hc2 => ?_)
    · -- t89 True
      replace hc2 := of_decide_eq_true hc2
      refine JC.skip ?_
      refine JQ.thenN ?_
      refine JC.seq ?_
      refine JC.block ?_
      refine JC.seq ?_
      -- region 14
      refine JC.region ?_
      refine JL.val rfl rfl rfl (.none rfl) (Ev.move rfl) ?_
      refine JL.val rfl rfl rfl (.none rfl) (Ev.assign rfl) ?_
      refine JL.nil ?_
      refine JQ.thenN ?_
      -- region 15
      refine JC.regionT 8 (by kernel_rfl) (by kernel_rfl) (List.take_append_drop 8 _).symm rfl ?_
      refine JW.val rfl rfl (.none rfl) (Ev.move rfl) ?_
      refine JW.val rfl rfl (.none rfl) (Ev.idxB1 rfl rfl Tryd.underlying110 Tryd.sizeOf41 (k := k) rfl (by omega)) ?_
      refine JW.val rfl rfl (.none rfl) (Ev.load1 rfl Tryd.underlying41 rfl (Rd.own (by repeat (first | exact List.Mem.head _ | refine List.Mem.tail _ ?_ | refine List.mem_append_right _ ?_ | assumption)) (addK_at s _ (by omega)))) ?_
      refine JW.val rfl rfl (.none rfl) (Ev.move rfl) ?_
      refine JW.val rfl rfl (.none rfl) (Ev.idxB1 rfl rfl Tryd.underlying110 Tryd.sizeOf41 (k := k) rfl (by omega)) ?_
      refine JW.val rfl rfl (.none rfl) (Ev.load1 rfl Tryd.underlying41 rfl (Rd.own (by repeat (first | exact List.Mem.head _ | refine List.Mem.tail _ ?_ | refine List.mem_append_right _ ?_ | assumption)) (stl_at _ (by omega)))) ?_
      refine JW.val rfl rfl (.none rfl) (Ev.bin rfl rfl add_u32) ?_
      refine JW.val rfl rfl (.none rfl) (Ev.idxB1 rfl rfl Tryd.underlying110 Tryd.sizeOf41 (k := k) rfl (by omega)) ?_
      refine JW.tail ?_
      refine JL.sto rfl rfl (.none rfl) (Es.store1 rfl rfl Tryd.sizeOf41 rfl rfl (by repeat (first | exact .here | apply Upd.there | apply Upd.left)) (by rw [arr32_size, addK_length _ _ (by omega)]; omega)) ?_
      refine JL.nil ?_
      refine JQ.blockN ?_
      refine JQ.thenN ?_
      -- region 16
      refine JC.region ?_
      refine JL.val rfl rfl rfl (.none rfl) (Ev.bin rfl rfl (add_i64 (by omega))) ?_
      refine JL.val rfl rfl rfl (.none rfl) (Ev.move rfl) ?_
      refine JL.nil ?_
      refine JQ.reH (.there (.there .here)) (congrArg (fun c => Obj.cells c 110 (0, 0)) (addK_set s _ (by omega))) ?_
      refine JQ.loopN (k + 1) ?_ ?_ ?_ ?_
      · exact Keeps.get (by repeat (first | exact Keeps.nil | refine Keeps.cons rfl ?_))
      · first | exact Sub.all | exact Sub.of_cnt (fun a => by (try dsimp only); simp only [cntA]; omega) | repeat (first | exact Sub.nil | refine Sub.cons (by first | exact .here | exact .there .here | exact .there (.there .here) | exact .there (.there (.there .here)) | exact .there (.there (.there (.there .here)))) ?_ | exact Sub.all)
      · omega
      · omega
    · -- t89 False
      replace hc2 := of_decide_eq_false hc2
      refine JC.exit ?_
      refine JQ.thenE ?_
      refine JQ.thenE ?_
      refine JQ.blockE ?_
      refine JQ.thenN ?_
      refine JC.seq ?_
      -- region 17
      refine JC.region ?_
      obtain rfl : k = 8 := by omega
      refine JL.val rfl rfl rfl (.none rfl) (Ev.loadB rfl (by repeat (first | exact List.Mem.head _ | refine List.Mem.tail _ ?_ | refine List.mem_append_right _ ?_ | assumption)) Tryd.underlying110 rfl Tryd.sizeOf110 (by first | rfl | exact dig_size _ | (rw [arr8_size]; first | exact sha_length _ | exact shaO_length _ | assumption))) ?_
      refine JL.sto rfl rfl (.none rfl) (Es.storeA rfl rfl Tryd.sizeOf110 (by repeat (first | exact .here | apply Upd.there | apply Upd.left)) (by first | rfl | exact dig_size _ | (rw [arr8_size]; first | exact sha_length _ | exact shaO_length _ | assumption)) (by first | rfl | exact dig_size _ | (rw [arr8_size]; first | exact sha_length _ | exact shaO_length _ | assumption)) (arr32_one _)) ?_
      refine JL.nil ?_
      refine JQ.thenN ?_
      refine JC.ret ?_
      refine JQ.end1 (H' := []) (.inl rfl) rfl (.agg rfl (by repeat (first | exact List.Mem.head _ | refine List.Mem.tail _ ?_ | refine List.mem_append_right _ ?_ | assumption)) Tryd.underlying110 rfl Tryd.sizeOf110 (by first | rfl | exact dig_size _ | (rw [arr8_size]; first | exact sha_length _ | exact shaO_length _ | assumption))) ?_ ?_
      · first | exact Sub.all | exact Sub.of_cnt (fun a => by (try dsimp only); simp only [cntA]; omega) | repeat (first | exact Sub.nil | refine Sub.cons (by first | exact .here | exact .there .here | exact .there (.there .here) | exact .there (.there (.there .here)) | exact .there (.there (.there (.there .here)))) ?_ | exact Sub.all)
      · exact rfl

end Go.Proofs.YtjjoenbighmfoaaDoor
namespace Go.Proofs.YtjjoenbighmfoaaDoor
open Go Go.RowKit
set_option maxRecDepth 100000

theorem lenBytes_take (n : Nat) {i : Nat} (hi : i < 8) : (lenBytes n).take (i + 1) = (lenBytes n).take i ++ [((UInt64.ofNat n * 8) >>> UInt64.ofNat (56 - 8 * i)).toUInt8] := by
  rcases (by omega : i = 0 ∨ i = 1 ∨ i = 2 ∨ i = 3 ∨ i = 4 ∨ i = 5 ∨ i = 6 ∨ i = 7) with h | h | h | h | h | h | h | h <;> subst h <;> rfl
theorem pad_sum (n z : Nat) : n + 9 + z = n + 1 + z + 8 := by omega

theorem clone_any (oa : Option Addr) (cap : Nat) (l : List UInt8) (w : World) (hb : Bs w oa cap l) (hl : l.length ≤ 1000000) :
    Calls Tryd.prog 68 #[.slice oa l.length cap] w (Ret w (fun v H => ∃ r, v = Row.v l.length r ∧ H = Row.b 5 r ∧ Row.ok 1 l.length (l.map u8) r)) := by
  refine enter (vs := [.slice oa l.length cap]) Tryd.func68 rfl Tryd.ntmps68 rfl ?_
  refine JC.seq ?_
  -- region 0
  refine JC.region ?_
  refine JL.val rfl rfl rfl (.none rfl) (Ev.assign rfl) ?_
  refine JL.nil ?_
  refine JQ.thenN ?_
  refine JC.seq ?_
  refine JC.seq ?_
  -- region 1
  refine JC.region ?_
  refine JL.val rfl rfl rfl (.none rfl) (Ev.move rfl) ?_
  refine JL.val rfl rfl rfl (.none rfl) (Ev.bin rfl rfl (eql_slice_nil Tryd.underlying88)) ?_
  refine JL.nil ?_
  refine JQ.thenN ?_
  refine JC.cond rfl (fun hc1 => ?_) (fun hc1 => ?_)
  · -- t4 True
    have hoa : oa = none := by simpa using hc1
    have hl0 : l = [] := List.eq_nil_of_length_eq_zero (by have := hb.le; have := hb.empty hoa; omega)
    refine JC.seq ?_
    -- region 2
    refine JC.region ?_
    refine JL.val rfl rfl rfl (.none rfl) (Ev.assign rfl) ?_
    refine JL.nil ?_
    refine JQ.thenN ?_
    refine JC.ret ?_
    refine JQ.thenR ?_
    refine JQ.end1 (H' := []) (.inl rfl) rfl (.tmp rfl) ?_ ?_
    · first | exact Sub.nil | exact Sub.all
    · exact ⟨none, by rw [hl0]; rfl, rfl, by rw [hl0]; exact ⟨rfl, rfl⟩⟩
  · -- t4 False
    refine JC.skip ?_
    refine JQ.thenN ?_
    refine JC.seq ?_
    -- region 3
    refine JC.region ?_
    refine JL.new rfl rfl rfl (.none rfl) (En.bsN (e := 5) rfl (fun _ => by kernel_rfl)) (fun b5 hb5 => ?_)
    refine JL.val rfl rfl rfl (.none rfl) (Ev.move rfl) ?_
    refine JL.gen rfl rfl rfl (.none rfl) (Eg.append (r := (some ⟨b5, 0, #[]⟩)) (n := 0) (m := l.length) (xs := []) (news := (l.map u8)) (z := (.int .u8 0)) (s := 1) (bytes := 1) rfl rfl rfl (by repeat (first | exact .last | exact .here | apply Cut.past | apply Cut.there)) Tryd.underlying88 (by kernel_rfl) rfl (by decide) (by decide) ⟨rfl, by simp, by simp, rfl, rfl⟩ (by simp) (fun a ha => Rds.old (hb.mem a ha)) (fun h => by have := hb.le; have := hb.empty h; omega) (u8s_one l) (by omega)) ?_
    rintro _ _ ⟨r1, rfl, rfl, hr1, hn1⟩
    refine JL.val rfl rfl rfl (.none rfl) (Ev.assign rfl) ?_
    refine JL.nil ?_
    refine JQ.thenN ?_
    refine JC.ret ?_
    refine JQ.end1 (H' := (Row.b 5 r1)) (.inl rfl) rfl (.tmp rfl) ?_ ?_
    · first | exact Sub.nil | exact Sub.all
    · exact ⟨r1, by rw [Nat.zero_add], rfl, by rw [Nat.zero_add] at hr1; exact hr1⟩

theorem padded_any (oa : Option Addr) (cap : Nat) (l : List UInt8) (w : World) (hb : Bs w oa cap l) (hl : l.length ≤ 1000000) :
    Calls Tryd.prog 75 #[.slice oa l.length cap] w (Ret w (fun v H => ∃ r : Row, v = Row.v (pad l).length (some r) ∧ H = Row.b 5 (some r) ∧ Row.ok 1 (pad l).length ((pad l).map u8) (some r))) := by
  refine enter (vs := [.slice oa l.length cap]) Tryd.func75 rfl Tryd.ntmps75 rfl ?_
  refine JC.seq ?_
  -- region 0
  refine JC.region ?_
  refine JL.val rfl rfl rfl (.none rfl) (Ev.assign rfl) ?_
  refine JL.nil ?_
  refine JQ.thenN ?_
  refine JC.seq ?_
  -- region 1
  refine JC.region ?_
  refine JL.val rfl rfl rfl (.none rfl) (Ev.move rfl) ?_
  refine JL.val rfl rfl rfl (.none rfl) (Ev.lenS rfl Tryd.underlying88) ?_
  refine JL.val rfl rfl rfl (.none rfl) (Ev.assign rfl) ?_
  refine JL.nil ?_
  refine JQ.thenN ?_
  refine JC.seq ?_
  -- region 2
  refine JC.region ?_
  refine JL.val rfl rfl rfl (.none rfl) (Ev.move rfl) ?_
  refine JL.callN rfl (.none rfl) rfl Tryd.call68 (fun w1 hw1 => clone_any oa cap l w1 (hb.old hw1) hl) ?_
  rintro _ _ ⟨r0, rfl, rfl, hr0⟩
  refine JL.new rfl rfl rfl (.none rfl) (En.bsN (e := 5) rfl (fun _ => by kernel_rfl)) (fun b10 hb10 => ?_)
  refine JL.gen rfl rfl rfl (.none rfl) (Eg.append1 (r := r0) (n := l.length) (m := 1) (xs := (l.map u8)) (news := [u8 128]) (z := (.int .u8 0)) (s := 1) (bytes := 1) rfl rfl rfl (by repeat (first | exact .last | exact .here | apply Cut.past | apply Cut.there)) Tryd.underlying88 (by kernel_rfl) rfl (by decide) (by decide) hr0 (Rds.all (by repeat (first | exact List.Mem.head _ | refine List.Mem.tail _ ?_ | refine List.mem_append_right _ ?_ | assumption))) rfl (by decide) (by intro u hu; simp at hu; subst hu; rfl) (by omega)) ?_
  rintro _ _ ⟨r1, rfl, rfl, hr1⟩
  refine JL.val rfl rfl rfl (.none rfl) (Ev.assign rfl) ?_
  refine JL.nil ?_
  refine JQ.thenN ?_
  refine JC.seq ?_
  -- region 3
  refine JC.region ?_
  refine JL.val rfl rfl rfl (.none rfl) (Ev.move rfl) ?_
  refine JL.val rfl rfl rfl (.none rfl) (Ev.move rfl) ?_
  refine JL.val rfl rfl rfl (.none rfl) (Ev.bin rfl rfl (add_i64 (by omega))) ?_
  refine JL.val rfl rfl rfl (.none rfl) (Ev.bin rfl rfl (rem_i64 (by omega))) ?_
  refine JL.val rfl rfl rfl (.none rfl) (Ev.bin rfl rfl (sub_i64 (by omega))) ?_
  refine JL.val rfl rfl rfl (.none rfl) (Ev.bin rfl rfl (rem_i64 (by omega))) ?_
  have hz : zeros l.length < 64 := by unfold zeros; omega
  refine JL.re (d := 17) (v' := .int .i64 ((zeros l.length : Nat) : Int)) rfl (congrArg (Value.int .i64) (by unfold zeros; omega)) ?_
  refine JL.gen rfl rfl rfl (.none rfl) (Eg.appendZs (r := r1) (n := l.length + 1) (k := zeros l.length) (xs := l.map u8 ++ [u8 128]) (z := (.int .u8 0)) (bytes := 1) rfl rfl rfl (by repeat (first | exact .last | exact .here | apply Cut.past | apply Cut.there)) Tryd.underlying88 Tryd.underlying3 (by kernel_rfl) rfl rfl (by decide) hr1 (by omega)) ?_
  rintro _ _ ⟨r2, rfl, rfl, hr2⟩
  refine JL.val rfl rfl rfl (.none rfl) (Ev.assign rfl) ?_
  refine JL.nil ?_
  refine JQ.thenN ?_
  refine JC.seq ?_
  refine JC.seq ?_
  -- region 4
  refine JC.region ?_
  refine JL.val rfl rfl rfl (.none rfl) (Ev.assign rfl) ?_
  refine JL.nil ?_
  refine JQ.thenN ?_
  refine JC.block ?_
  refine JC.loop (X := Nat × Row)
    (fun ⟨i, r⟩ => [(3, .int .i64 (l.length : Int)), (4, Row.v (l.length + 1 + zeros l.length + i) (some r)), (5, .int .i64 (56 - 8 * (i : Int)))])
    (fun ⟨i, r⟩ => Row.b 5 (some r))
    (fun ⟨i, r⟩ => i ≤ 8 ∧ Row.ok 1 (l.length + 1 + zeros l.length + i) ((l ++ [128] ++ List.replicate (zeros l.length) 0 ++ (lenBytes l.length).take i).map u8) (some r))
    (fun ⟨i, r⟩ => 8 - i) (0, r2) ?_ ?_ ?_ ?_
  · exact Keeps.get (by repeat (first | exact Keeps.nil | refine Keeps.cons rfl ?_))
  · repeat (first | exact Sub.nil | refine Sub.cons (by first | exact .here | exact .there .here | exact .there (.there .here)) ?_)
  · exact ⟨Nat.zero_le _, by simpa [List.map_append, List.append_assoc, u8] using hr2⟩
  rintro ⟨i, r⟩ ⟨hi, hr⟩
  have hz : zeros l.length < 64 := by unfold zeros; omega
  refine JC.seq ?_
  refine JC.seq ?_
  -- region 5
  refine JC.region ?_
  refine JL.val rfl rfl rfl (.none rfl) (Ev.move rfl) ?_
  refine JL.val rfl rfl rfl (.none rfl) (Ev.bin rfl rfl geq_int) ?_
  refine JL.nil ?_
  refine JQ.thenN ?_
  refine JC.cond rfl (fun hc1 => ?_) (fun hc1 => ?_)
  · -- t20 True
    replace hc1 := of_decide_eq_true hc1
    refine JC.skip ?_
    refine JQ.thenN ?_
    refine JC.seq ?_
    refine JC.block ?_
    -- region 7
    refine JC.region ?_
    refine JL.val rfl rfl rfl (.none rfl) (Ev.move rfl) ?_
    refine JL.val rfl rfl rfl (.none rfl) (Ev.move rfl) ?_
    refine JL.val rfl rfl rfl (.none rfl) (Ev.conv rfl (conv_i64_u64 Tryd.underlying3 Tryd.underlying51 (by omega))) ?_
    refine JL.val rfl rfl rfl (.none rfl) (Ev.bin rfl rfl (mul_u64 (y := 8))) ?_
    refine JL.val rfl rfl rfl (.none rfl) (Ev.move rfl) ?_
    refine JL.re (d := 27) (v' := .int .i64 ((56 - 8 * i : Nat) : Int)) rfl (congrArg (Value.int .i64) (by omega)) ?_
    refine JL.val rfl rfl rfl (.none rfl) (Ev.bin rfl rfl (shr_u64 (n := 56 - 8 * i) (by omega))) ?_
    refine JL.val rfl rfl rfl (.none rfl) (Ev.conv rfl (conv_u64_u8 Tryd.underlying51 Tryd.underlying5)) ?_
    refine JL.new rfl rfl rfl (.none rfl) (En.bsN (e := 5) rfl (fun _ => by kernel_rfl)) (fun b30 hb30 => ?_)
    refine JL.gen rfl rfl rfl (.none rfl) (Eg.append1 (r := (some r)) (n := l.length + 1 + zeros l.length + i) (m := 1) (xs := ((l ++ [128] ++ List.replicate (zeros l.length) 0 ++ (lenBytes l.length).take i).map u8)) (news := [u8 ((UInt64.ofNat l.length * 8) >>> UInt64.ofNat (56 - 8 * i)).toUInt8]) (z := (.int .u8 0)) (s := 1) (bytes := 1) rfl rfl rfl (by repeat (first | exact .last | exact .here | apply Cut.past | apply Cut.there)) Tryd.underlying88 (by kernel_rfl) rfl (by decide) (by decide) hr (Rds.all (by repeat (first | exact List.Mem.head _ | refine List.Mem.tail _ ?_ | refine List.mem_append_right _ ?_ | assumption))) rfl (by decide) (by intro u hu; simp at hu; subst hu; rfl) (by omega)) ?_
    rintro _ _ ⟨r3, rfl, rfl, hr3⟩
    refine JL.val rfl rfl rfl (.none rfl) (Ev.assign rfl) ?_
    refine JL.nil ?_
    refine JQ.blockN ?_
    refine JQ.thenN ?_
    -- region 6
    refine JC.region ?_
    refine JL.val rfl rfl rfl (.none rfl) (Ev.move rfl) ?_
    refine JL.val rfl rfl rfl (.none rfl) (Ev.bin rfl rfl (sub_i64 (by omega))) ?_
    refine JL.val rfl rfl rfl (.none rfl) (Ev.assign rfl) ?_
    refine JL.nil ?_
    refine JQ.re (d := 5) (v' := .int .i64 (56 - 8 * ((i + 1 : Nat) : Int))) rfl (congrArg (Value.int .i64) (by omega)) ?_
    refine JQ.loopN (i + 1, r3) ?_ ?_ ?_ ?_
    · exact Keeps.get (by repeat (first | exact Keeps.nil | refine Keeps.cons rfl ?_))
    · first | exact Sub.all | exact Sub.of_cnt (fun a => by (try dsimp only); simp only [cntA]; omega) | repeat (first | exact Sub.nil | refine Sub.cons (by first | exact .here | exact .there .here | exact .there (.there .here) | exact .there (.there (.there .here)) | exact .there (.there (.there (.there .here)))) ?_ | exact Sub.all)
    · exact ⟨by omega, by simpa [lenBytes_take _ (show i < 8 by omega), List.map_append, List.append_assoc, Nat.add_assoc] using hr3⟩
    · show 8 - (i + 1) < 8 - i; omega
  · -- t20 False
    replace hc1 := of_decide_eq_false hc1
    refine JC.exit ?_
    refine JQ.thenE ?_
    refine JQ.thenE ?_
    refine JQ.blockE ?_
    refine JQ.thenN ?_
    refine JC.seq ?_
    -- region 8
    refine JC.region ?_
    refine JL.val rfl rfl rfl (.none rfl) (Ev.move rfl) ?_
    refine JL.val rfl rfl rfl (.none rfl) (Ev.assign rfl) ?_
    refine JL.nil ?_
    refine JQ.thenN ?_
    refine JC.ret ?_
    obtain rfl : i = 8 := by omega
    refine JQ.end1 (H' := (Row.b 5 (some r))) (.inl rfl) rfl (.tmp rfl) ?_ ?_
    · first | exact Sub.all | exact Sub.of_cnt (fun a => by (try dsimp only); simp only [cntA]; omega) | repeat (first | exact Sub.nil | refine Sub.cons (by first | exact .here | exact .there .here | exact .there (.there .here) | exact .there (.there (.there .here)) | exact .there (.there (.there (.there .here)))) ?_ | exact Sub.all)
    · exact ⟨r, by rw [pad_length, pad_sum], rfl, by rw [pad_length, pad_sum]; exact hr⟩

end Go.Proofs.YtjjoenbighmfoaaDoor
namespace Go.Proofs.YtjjoenbighmfoaaDoor
open Go Go.RowKit
set_option maxRecDepth 100000

end Go.Proofs.YtjjoenbighmfoaaDoor
namespace Go.Proofs.YtjjoenbighmfoaaDoor
open Go Go.RowKit
set_option maxRecDepth 100000

def padO (l : List UInt8) : List UInt8 := if 8192 < l.length then [] else pad l
end Go.Proofs.YtjjoenbighmfoaaDoor
namespace Go.Proofs.YtjjoenbighmfoaaDoor
open Go Go.RowKit
set_option maxRecDepth 100000

def four (x : UInt32) : List UInt8 := [(x >>> UInt32.ofNat 24).toUInt8, (x >>> UInt32.ofNat 16).toUInt8, (x >>> UInt32.ofNat 8).toUInt8, x.toUInt8]
def outK (s : St) (i : Nat) : List UInt8 := (outBytes s).take (4 * i) ++ List.replicate (32 - 4 * i) 0
theorem outK_length (s : St) {i : Nat} (hi : i ≤ 8) : (outK s i).length = 32 := by
  rcases (by omega : i = 0 ∨ i = 1 ∨ i = 2 ∨ i = 3 ∨ i = 4 ∨ i = 5 ∨ i = 6 ∨ i = 7 ∨ i = 8) with h | h | h | h | h | h | h | h | h <;> subst h <;> rfl
theorem outK_over (s : St) {i : Nat} (hi : i < 8) : over (arr8 (outK s i)) (4 * i) ((four (s.l.getD i 0)).map u8) = arr8 (outK s (i + 1)) := by
  rcases (by omega : i = 0 ∨ i = 1 ∨ i = 2 ∨ i = 3 ∨ i = 4 ∨ i = 5 ∨ i = 6 ∨ i = 7) with h | h | h | h | h | h | h | h <;> subst h <;> rfl
theorem mem_of_row {w0 w : World} {H : Blocks} {e : TypeId} {n : Nat} {r : Row} {l : List UInt8} (hw : Hp w0 H w) (hm : (r.g, Obj.cells r.cs e (0, 0)) ∈ H) (hr : Row.ok 1 n (l.map u8) (some r)) : BMem w ⟨r.g, 0, none⟩ l := by
  refine Mem.own hw hm fun j v hj => ?_
  rw [← hr.2.2.2.2] at hj
  rw [List.getElem?_take] at hj
  split at hj
  · simpa using hj
  · cases hj
def shaO (l : List UInt8) : List UInt8 := if 8192 < l.length then List.replicate 32 0 else sha l
theorem shaO_big {l : List UInt8} (h : 8192 < l.length) : shaO l = List.replicate 32 0 := if_pos h
theorem shaO_small {l : List UInt8} (h : ¬ 8192 < l.length) : shaO l = sha l := if_neg h

theorem chunk_any (oa : Option Addr) (len cap : Nat) (w : World) :
    Calls Tryd.prog 74 #[.slice oa len cap, .int .i64 64] w (Ret w (fun v H => ∃ bs bn, v = .func (.func 80) #[] #[.pointer (some ⟨bs, 0, none⟩), .pointer (some ⟨bn, 0, none⟩)] ∧ H = [(bn, .cells #[.int .i64 64] 3 (0, 0)), (bs, .cells #[.slice oa len cap] 88 (0, 0))])) := by
  refine enter (vs := [.slice oa len cap, .int .i64 64]) Tryd.func74 rfl Tryd.ntmps74 rfl ?_
  refine JC.seq ?_
  -- region 0
  refine JC.region ?_
  refine JL.new rfl rfl rfl (.none rfl) (En.box1 rfl rfl) (fun b2 hb2 => ?_)
  refine JL.new rfl rfl rfl (.none rfl) (En.box1 rfl rfl) (fun b3 hb3 => ?_)
  refine JL.val rfl rfl rfl (.none rfl) (Ev.assign rfl) ?_
  refine JL.nil ?_
  refine JQ.thenN ?_
  refine JC.seq ?_
  refine JC.seq ?_
  -- region 1
  refine JC.region ?_
  refine JL.val rfl rfl rfl (.none rfl) (Ev.load1 rfl Tryd.underlying3 rfl (Rd.own (by repeat (first | exact List.Mem.head _ | refine List.Mem.tail _ ?_ | refine List.mem_append_right _ ?_ | assumption)) rfl)) ?_
  refine JL.val rfl rfl rfl (.none rfl) (Ev.bin rfl rfl lss_int) ?_
  refine JL.nil ?_
  refine JQ.thenN ?_
  refine JC.knowF rfl ?_ ?_
  · rfl
  refine JC.skip ?_
  refine JQ.thenN ?_
  refine JC.seq ?_
  -- region 3
  refine JC.region ?_
  refine JL.val rfl rfl rfl (.none rfl) (Ev.makeFunc rfl) ?_
  refine JL.val rfl rfl rfl (.none rfl) (Ev.assign rfl) ?_
  refine JL.nil ?_
  refine JQ.thenN ?_
  refine JC.ret ?_
  refine JQ.end1 (H' := [(b3, .cells #[.int .i64 64] 3 (0, 0)), (b2, .cells #[.slice oa len cap] 88 (0, 0))]) (.inl rfl) rfl (.tmp rfl) ?_ ?_
  · first | exact Sub.all | exact Sub.of_cnt (fun a => by (try dsimp only); simp only [cntA]; omega) | repeat (first | exact Sub.nil | refine Sub.cons (by first | exact .here | exact .there .here | exact .there (.there .here) | exact .there (.there (.there .here)) | exact .there (.there (.there (.there .here)))) ?_ | exact Sub.all)
  · exact ⟨b2, b3, rfl, rfl⟩

theorem chunkIter_any (w0 w : World) (l bs bn N cap : Nat) (a : Addr) (HB : Nat → Blocks) (hs : ∀ k, (bs, .cells #[.slice (some a) (64 * N) cap] 88 (0, 0)) ∈ HB k) (hn : ∀ k, (bn, .cells #[.int .i64 64] 3 (0, 0)) ∈ HB k) (hcap : 64 * N ≤ cap) (hmax : 64 * N ≤ 9007199254740992) (hy : ∀ k, k < N → ∀ w1, Hp w0 (HB k) w1 → YieldOk Tryd.prog l #[.slice (some (a.add (64 * k))) 64 64] w1 (fun e w1 => e = .returned (.bool true) ∧ Hp w0 (HB (k + 1)) w1)) (hw : Hp w0 (HB 0) w) :
    Calls Tryd.prog 80 #[.func (.yield l) #[] #[], .pointer (some ⟨bs, 0, none⟩), .pointer (some ⟨bn, 0, none⟩)] w (Ret w0 (fun _ H => H = HB N)) := by
  refine enterAt (vs := [.func (.yield l) #[] #[], .pointer (some ⟨bs, 0, none⟩), .pointer (some ⟨bn, 0, none⟩)]) Tryd.func80 rfl Tryd.ntmps80 rfl hw ?_
  refine JC.seq ?_
  -- region 0
  refine JC.region ?_
  refine JL.val rfl rfl rfl (.none rfl) (Ev.assign rfl) ?_
  refine JL.nil ?_
  refine JQ.thenN ?_
  refine JC.block ?_
  refine JC.loop (X := Nat)
    (fun k => [(0, .func (.yield l) #[] #[]), (1, .pointer (some ⟨bs, 0, none⟩)), (2, .pointer (some ⟨bn, 0, none⟩)), (4, .int .i64 (64 * (k : Int)))])
    (fun k => HB k)
    (fun k => k ≤ N)
    (fun k => N - k) 0 ?_ ?_ ?_ ?_
  · exact Keeps.get (by repeat (first | exact Keeps.nil | refine Keeps.cons rfl ?_))
  · exact Sub.all
  · omega
  rintro k hkN
  refine JC.seq ?_
  refine JC.seq ?_
  -- region 1
  refine JC.region ?_
  refine JL.val rfl rfl rfl (.none rfl) (Ev.move rfl) ?_
  refine JL.val rfl rfl rfl (.none rfl) (Ev.load1 rfl Tryd.underlying88 rfl (Rd.own (hs k) rfl)) ?_
  refine JL.val rfl rfl rfl (.none rfl) (Ev.lenS rfl Tryd.underlying88) ?_
  refine JL.val rfl rfl rfl (.none rfl) (Ev.bin rfl rfl lss_int) ?_
  refine JL.nil ?_
  refine JQ.thenN ?_
  refine JC.cond rfl (fun hc1 => ?_) (fun hc1 => ?_)
  · -- t9 True
    replace hc1 := of_decide_eq_true hc1
    have hk1 : k < N := by omega
    refine JC.skip ?_
    refine JQ.thenN ?_
    refine JC.seq ?_
    refine JC.block ?_
    refine JC.seq ?_
    -- region 3
    refine JC.regionQ (by kernel_rfl) (by kernel_rfl) ?_
    refine JW.val rfl rfl (.none rfl) (Ev.load1 rfl Tryd.underlying3 rfl (Rd.own (hn k) rfl)) ?_
    refine JW.val rfl rfl (.none rfl) (Ev.load1 rfl Tryd.underlying88 rfl (Rd.own (hs k) rfl)) ?_
    refine JW.val rfl rfl (.none rfl) (Ev.move rfl) ?_
    refine JW.val rfl rfl (.none rfl) (Ev.sliceLo rfl rfl Tryd.underlying88 Tryd.sizeOf5 (l := 64 * k) (by omega) (by omega)) ?_
    refine JW.re (d := 16) rfl (sub3_some (by omega)) ?_
    refine JW.val rfl rfl (.none rfl) (Ev.lenS rfl Tryd.underlying88) ?_
    refine JW.val rfl rfl (.none rfl) (Ev.min2 rfl rfl) ?_
    refine JW.re (d := 18) (v' := .int .i64 64) rfl (congrArg (Value.int .i64) (by omega)) ?_
    refine JW.val rfl rfl (.none rfl) (Ev.assign rfl) ?_
    refine JW.nilQ ?_
    refine JQ.thenN ?_
    refine JC.seq ?_
    -- region 4
    refine JC.region ?_
    refine JL.val rfl rfl rfl (.none rfl) (Ev.move rfl) ?_
    refine JL.val rfl rfl rfl (.none rfl) (Ev.load1 rfl Tryd.underlying88 rfl (Rd.own (hs k) rfl)) ?_
    refine JL.val rfl rfl rfl (.none rfl) (Ev.move rfl) ?_
    refine JL.val rfl rfl rfl (.none rfl) (Ev.move rfl) ?_
    refine JL.val rfl rfl rfl (.none rfl) (Ev.move rfl) ?_
    refine JL.val rfl rfl rfl (.none rfl) (Ev.bin rfl rfl (add_i64 (by omega))) ?_
    refine JL.val rfl rfl rfl (.none rfl) (Ev.move rfl) ?_
    refine JL.val rfl rfl rfl (.none rfl) (Ev.move rfl) ?_
    refine JL.val rfl rfl rfl (.none rfl) (Ev.bin rfl rfl (add_i64 (by omega))) ?_
    refine JL.val rfl rfl rfl (.none rfl) (Ev.sliceLHM rfl rfl rfl rfl Tryd.underlying88 Tryd.sizeOf5 (l := 64 * k) (h := 64 * k + 64) (m := 64 * k + 64) (by omega) (by omega) (by omega) (by omega) (by omega) (by omega)) ?_
    refine JL.re (d := 28) (v' := .slice (some (a.add (64 * k))) 64 64) rfl ((sub3_some (by omega)).trans (by congr 1 <;> omega)) ?_
    refine JL.yield rfl rfl (.none rfl) rfl rfl (fun w1 hw1 => hy k hk1 w1 hw1) ?_
    refine JL.val rfl rfl rfl (.none rfl) (Ev.not rfl) ?_
    refine JL.nil ?_
    refine JQ.thenN ?_
    refine JC.condF rfl ?_
    refine JC.skip ?_
    refine JQ.blockN ?_
    refine JQ.thenN ?_
    -- region 2
    refine JC.region ?_
    refine JL.val rfl rfl rfl (.none rfl) (Ev.move rfl) ?_
    refine JL.val rfl rfl rfl (.none rfl) (Ev.load1 rfl Tryd.underlying3 rfl (Rd.own (hn _) rfl)) ?_
    refine JL.val rfl rfl rfl (.none rfl) (Ev.bin rfl rfl (add_i64 (by omega))) ?_
    refine JL.val rfl rfl rfl (.none rfl) (Ev.assign rfl) ?_
    refine JL.nil ?_
    refine JQ.re (d := 4) (v' := .int .i64 (64 * ((k + 1 : Nat) : Int))) rfl (congrArg (Value.int .i64) (by omega)) ?_
    refine JQ.loopN (k + 1) ?_ ?_ ?_ ?_
    · exact Keeps.get (by repeat (first | exact Keeps.nil | refine Keeps.cons rfl ?_))
    · exact Sub.all
    · omega
    · omega
  · -- t9 False
    replace hc1 := of_decide_eq_false hc1
    obtain rfl : k = N := by omega
    refine JC.exit ?_
    refine JQ.thenE ?_
    refine JQ.thenE ?_
    refine JQ.blockE ?_
    refine JQ.end0 (H' := (HB k)) (.inr rfl) rfl  ?_ ?_
    · exact Sub.all
    · exact rfl

theorem sum_any (oa : Option Addr) (cap : Nat) (l : List UInt8) (w : World) (hb : Bs w oa cap l) (hl : l.length ≤ 1000000) (hk : KMem 1 w) (hf : FMem 0 w) :
    Calls Tryd.prog 69 #[.slice oa l.length cap] w (Ret w (fun v _ => v = .agg (arr8 (sha l)))) := by
  refine enterM (vs := [.slice oa l.length cap]) Tryd.func69 rfl Tryd.ntmps69 rfl ?_
  refine JC.seq ?_
  -- region 0
  refine JC.region ?_
  refine JL.new rfl rfl rfl (.none rfl) (En.allocZ (cs := arr8 (List.replicate 32 0)) Tryd.zeroValue40 rfl) (fun b2 hb2 => ?_)
  refine JL.nil ?_
  refine JQ.reH (o' := .cells (arr8 (List.replicate 32 0)) 40 (0, 0)) .here rfl ?_
  refine JQ.thenN ?_
  refine JC.seq ?_
  -- region 1
  refine JC.region ?_
  refine JL.val rfl rfl rfl (.none rfl) (Ev.loadA (a := ⟨0, 0, none⟩) (l := st0.l.map u32) rfl Tryd.underlying110 rfl Tryd.sizeOf110 (Rds.old hf) rfl) ?_
  refine JL.new rfl rfl rfl (.none rfl) (En.allocZ (cs := arr32 (List.replicate 8 0)) Tryd.zeroValue110 rfl) (fun b3 hb3 => ?_)
  refine JL.sto rfl rfl (.none rfl) (Es.storeA rfl rfl Tryd.sizeOf110 (by repeat (first | exact .here | apply Upd.there | apply Upd.left)) (by first | rfl | exact dig_size _ | (rw [arr8_size]; first | exact sha_length _ | exact shaO_length _ | assumption)) (by first | rfl | exact dig_size _ | (rw [arr8_size]; first | exact sha_length _ | exact shaO_length _ | assumption)) (arr32_one st0.l)) ?_
  refine JL.nil ?_
  refine JQ.thenN ?_
  refine JC.seq ?_
  refine JC.seq ?_
  -- region 2
  refine JC.region ?_
  refine JL.val rfl rfl rfl (.none rfl) (Ev.move rfl) ?_
  refine JL.callN rfl (.none rfl) rfl Tryd.call75 (fun w1 hw1 => padded_any oa cap l w1 (hb.old hw1) hl) ?_
  rintro _ _ ⟨r0, rfl, rfl, hr0⟩
  refine JL.callN rfl (.none rfl) rfl Tryd.call74 (fun w1 hw1 => chunk_any (some ⟨r0.g, 0, none⟩) (pad l).length r0.cap w1) ?_
  rintro _ _ ⟨bs, bn, rfl, rfl⟩
  refine JL.nil ?_
  refine JQ.thenN ?_
  refine JC.block ?_
  have hN : 64 * ((pad l).length / 64) = (pad l).length := by have := pad_mod l; omega
  have hmx : (pad l).length ≤ 9007199254740992 := by have := pad_length l; have : zeros l.length < 64 := by { unfold zeros; omega }; omega
  have hcp : (pad l).length ≤ r0.cap := hr0.2.1
  refine JC.range ((pad l).length / 64) (fun k E => (bn, .cells #[.int .i64 64] 3 (0, 0)) :: (bs, .cells #[.slice (some ⟨r0.g, 0, none⟩) (pad l).length r0.cap] 88 (0, 0)) :: (r0.g, .cells r0.cs 5 (0, 0)) :: (b3, .cells (arr32 (foldB (pad l) st0 (k)).l) 110 (0, 0)) :: (b2, .cells (arr8 (List.replicate 32 0)) 40 (0, 0)) :: E) (fun k => .slice (some ((⟨r0.g, 0, none⟩ : Addr).add (64 * k))) 64 64) (fun k => [(2, .pointer (some ⟨b2, 0, none⟩)), (3, .pointer (some ⟨b3, 0, none⟩)), (4, .slice (some ((⟨r0.g, 0, none⟩ : Addr).add (64 * k))) 64 64)]) (fun _ _ => rfl) rfl Tryd.call80 ?_ rfl ?_ ?_ ?_ ?_
  · first | exact Sub.all | exact Sub.of_cnt (fun a => by (try dsimp only); simp only [cntA]; omega) | repeat (first | exact Sub.nil | refine Sub.cons (by first | exact .here | exact .there .here | exact .there (.there .here) | exact .there (.there (.there .here)) | exact .there (.there (.there (.there .here)))) ?_ | exact Sub.all)
  · intro lr E w1 hw1 hy1
    exact chunkIter_any w w1 lr bs bn _ r0.cap _ (fun k => (bn, .cells #[.int .i64 64] 3 (0, 0)) :: (bs, .cells #[.slice (some ⟨r0.g, 0, none⟩) (pad l).length r0.cap] 88 (0, 0)) :: (r0.g, .cells r0.cs 5 (0, 0)) :: (b3, .cells (arr32 (foldB (pad l) st0 (k)).l) 110 (0, 0)) :: (b2, .cells (arr8 (List.replicate 32 0)) 40 (0, 0)) :: E) (fun k => by rw [hN]; exact .tail _ (.head _)) (fun k => .head _) (by omega) (by omega) hy1 hw1
  · intro lr k E hkN
    -- region 3
    refine JC.region ?_
    refine JL.val rfl rfl rfl (.none rfl) (Ev.assign rfl) ?_
    refine JL.nil ?_
    refine JQ.asg ?_
    exact Keeps.get (by repeat (first | exact Keeps.nil | refine Keeps.cons rfl ?_))
  · intro lr k E hkN
    refine JC.block ?_
    -- region 4
    refine JC.region ?_
    refine JL.val rfl rfl rfl (.none rfl) (Ev.loadB rfl (by repeat (first | exact List.Mem.head _ | refine List.Mem.tail _ ?_ | refine List.mem_append_right _ ?_ | assumption)) Tryd.underlying110 rfl Tryd.sizeOf110 (by first | rfl | exact dig_size _ | (rw [arr8_size]; first | exact sha_length _ | exact shaO_length _ | assumption))) ?_
    refine JL.val rfl rfl rfl (.none rfl) (Ev.move rfl) ?_
    refine JL.callV rfl (.none rfl) rfl Tryd.call76 (fun w1 hw1 => (step_any (foldB (pad l) st0 k) ((⟨r0.g, 0, none⟩ : Addr).add (64 * k)) 64 (((pad l).drop (64 * k)).take 64) w1 (hk.old hw1) (BMem.cut (mem_of_row hw1 (.tail _ (.tail _ (.head _))) hr0) _ _) (by simp; omega) (Nat.le_refl _))) ?_
    refine JL.sto rfl rfl (.none rfl) (Es.storeA rfl rfl Tryd.sizeOf110 (by repeat (first | exact .here | apply Upd.there | apply Upd.left)) (by first | rfl | exact dig_size _ | (rw [arr8_size]; first | exact sha_length _ | exact shaO_length _ | assumption)) (by first | rfl | exact dig_size _ | (rw [arr8_size]; first | exact sha_length _ | exact shaO_length _ | assumption)) (arr32_one _)) ?_
    refine JL.nil ?_
    refine JQ.blockN ?_
    refine JQ.bod ?_
    first | exact Sub.all | exact Sub.of_cnt (fun a => by (try dsimp only); simp only [cntA]; omega) | repeat (first | exact Sub.nil | refine Sub.cons (by first | exact .here | exact .there .here | exact .there (.there .here) | exact .there (.there (.there .here)) | exact .there (.there (.there (.there .here)))) ?_ | exact Sub.all)
  intro D E
  generalize hsd : foldB (pad l) st0 ((pad l).length / 64) = s
  refine JQ.blockN ?_
  refine JQ.thenN ?_
  refine JC.seq ?_
  refine JC.seq ?_
  -- region 5
  refine JC.region ?_
  refine JL.val rfl rfl rfl (.none rfl) (Ev.loadB rfl (by repeat (first | exact List.Mem.head _ | refine List.Mem.tail _ ?_ | refine List.mem_append_right _ ?_ | assumption)) Tryd.underlying110 rfl Tryd.sizeOf110 (by first | rfl | exact dig_size _ | (rw [arr8_size]; first | exact sha_length _ | exact shaO_length _ | assumption))) ?_
  refine JL.val rfl rfl rfl (.none rfl) (Ev.move rfl) ?_
  refine JL.nil ?_
  refine JQ.thenN ?_
  refine JC.block ?_
  refine JC.loop (X := Nat)
    (fun i => [(2, .pointer (some ⟨b2, 0, none⟩)), (15, .agg (arr32 s.l)), (16, .int .i64 (i : Int))])
    (fun i => [(b2, .cells (arr8 (outK s i)) 40 (0, 0)), (D, .deferred (some []))])
    (fun i => i ≤ 8)
    (fun i => 8 - i) 0 ?_ ?_ ?_ ?_
  · exact Keeps.get (by repeat (first | exact Keeps.nil | refine Keeps.cons rfl ?_))
  · first | exact Sub.all | exact Sub.of_cnt (fun a => by (try dsimp only); simp only [cntA]; omega) | repeat (first | exact Sub.nil | refine Sub.cons (by first | exact .here | exact .there .here | exact .there (.there .here) | exact .there (.there (.there .here)) | exact .there (.there (.there (.there .here)))) ?_ | exact Sub.all)
  · omega
  rintro i hi8
  refine JC.seq ?_
  -- region 6
  refine JC.region ?_
  refine JL.val rfl rfl rfl (.none rfl) (Ev.bin rfl rfl lss_int) ?_
  refine JL.nil ?_
  refine JQ.thenN ?_
  refine JC.seq ?_
  refine JC.cond rfl (fun hc1 => ?_) (fun hc1 => ?_)
  · -- t17 True
    replace hc1 := of_decide_eq_true hc1
    refine JC.skip ?_
    refine JQ.thenN ?_
    refine JC.seq ?_
    refine JC.block ?_
    refine JC.seq ?_
    -- region 7
    refine JC.region ?_
    refine JL.val rfl rfl rfl (.none rfl) (Ev.move rfl) ?_
    refine JL.val rfl rfl rfl (.none rfl) (Ev.index1 rfl rfl Tryd.underlying110 Tryd.sizeOf41 Tryd.underlying41 rfl (k := i) rfl (by omega) (stl_at s (by omega))) ?_
    refine JL.val rfl rfl rfl (.none rfl) (Ev.assign rfl) ?_
    refine JL.val rfl rfl rfl (.none rfl) (Ev.assign rfl) ?_
    refine JL.nil ?_
    refine JQ.thenN ?_
    -- region 8
    refine JC.region ?_
    refine JL.val rfl rfl rfl (.none rfl) (Ev.move rfl) ?_
    refine JL.val rfl rfl rfl (.none rfl) (Ev.bin rfl rfl (mul_i64 (by omega))) ?_
    refine JL.val rfl rfl rfl (.none rfl) (Ev.sliceALo rfl rfl Tryd.underlying40 Tryd.sizeOf5 (l := 4 * i) (by omega) (by omega)) ?_
    refine JL.re (d := 22) (v' := .slice (some ⟨b2, 4 * i, none⟩) (32 - 4 * i) (32 - 4 * i)) rfl (by rw [add_lit]; congr 3; omega) ?_
    refine JL.val rfl rfl rfl (.none rfl) (Ev.move rfl) ?_
    refine JL.val rfl rfl rfl (.none rfl) (Ev.bin rfl rfl (shr_u32 (n := 24) (by decide))) ?_
    refine JL.val rfl rfl rfl (.none rfl) (Ev.conv rfl (conv_u32_u8 Tryd.underlying41 Tryd.underlying5)) ?_
    refine JL.val rfl rfl rfl (.none rfl) (Ev.move rfl) ?_
    refine JL.val rfl rfl rfl (.none rfl) (Ev.bin rfl rfl (shr_u32 (n := 16) (by decide))) ?_
    refine JL.val rfl rfl rfl (.none rfl) (Ev.conv rfl (conv_u32_u8 Tryd.underlying41 Tryd.underlying5)) ?_
    refine JL.val rfl rfl rfl (.none rfl) (Ev.move rfl) ?_
    refine JL.val rfl rfl rfl (.none rfl) (Ev.bin rfl rfl (shr_u32 (n := 8) (by decide))) ?_
    refine JL.val rfl rfl rfl (.none rfl) (Ev.conv rfl (conv_u32_u8 Tryd.underlying41 Tryd.underlying5)) ?_
    refine JL.val rfl rfl rfl (.none rfl) (Ev.move rfl) ?_
    refine JL.val rfl rfl rfl (.none rfl) (Ev.conv rfl (conv_u32_u8 Tryd.underlying41 Tryd.underlying5)) ?_
    refine JL.new rfl rfl rfl (.none rfl) (En.bsN (e := 5) rfl (fun _ => by kernel_rfl)) (fun b34 hb34 => ?_)
    refine JL.gen rfl rfl rfl (.none rfl) (Eg.copy (b := b2) (n := 4) (o := 4 * i) (l := (four (s.l.getD i 0)).map u8) rfl rfl Tryd.underlying88 Tryd.sizeOf5 (by repeat (first | exact .here | apply Upd.there | apply Upd.left)) (by show 4 = Nat.min 4 (32 - 4 * i); have : Nat.min 4 (32 - 4 * i) = min 4 (32 - 4 * i) := rfl; omega) rfl (Rds.own (by repeat (first | exact List.Mem.head _ | refine List.Mem.tail _ ?_ | refine List.mem_append_right _ ?_ | assumption)) (fun j v hj => by rw [Nat.zero_add, ← hj]; simp [four])) (by rw [arr8_size, outK_length _ (by omega)]; omega) (u8s_one _)) ?_
    rintro _ _ ⟨rfl, rfl⟩
    refine JL.reH (o' := .cells (arr8 (outK s (i + 1))) 40 (0, 0)) (.there .here) (congrArg (fun c => Obj.cells c 40 (0, 0)) (outK_over s (i := i) (by omega))) ?_
    refine JL.nil ?_
    refine JQ.blockN ?_
    refine JQ.thenN ?_
    -- region 9
    refine JC.region ?_
    refine JL.val rfl rfl rfl (.none rfl) (Ev.bin rfl rfl (add_i64 (by omega))) ?_
    refine JL.val rfl rfl rfl (.none rfl) (Ev.move rfl) ?_
    refine JL.nil ?_
    refine JQ.loopN (i + 1) ?_ ?_ ?_ ?_
    · exact Keeps.get (by repeat (first | exact Keeps.nil | refine Keeps.cons rfl ?_))
    · first | exact Sub.all | exact Sub.of_cnt (fun a => by (try dsimp only); simp only [cntA]; omega) | repeat (first | exact Sub.nil | refine Sub.cons (by first | exact .here | exact .there .here | exact .there (.there .here) | exact .there (.there (.there .here)) | exact .there (.there (.there (.there .here)))) ?_ | exact Sub.all)
    · omega
    · omega
  · -- t17 False
    replace hc1 := of_decide_eq_false hc1
    refine JC.exit ?_
    refine JQ.thenE ?_
    refine JQ.thenE ?_
    refine JQ.blockE ?_
    refine JQ.thenN ?_
    refine JC.seq ?_
    -- region 10
    refine JC.region ?_
    obtain rfl : i = 8 := by omega
    refine JL.val rfl rfl rfl (.none rfl) (Ev.loadB rfl (by repeat (first | exact List.Mem.head _ | refine List.Mem.tail _ ?_ | refine List.mem_append_right _ ?_ | assumption)) Tryd.underlying40 rfl Tryd.sizeOf40 (by rw [arr8_size, outK_length _ (by omega)])) ?_
    refine JL.sto rfl rfl (.none rfl) (Es.storeA rfl rfl Tryd.sizeOf40 (by repeat (first | exact .here | apply Upd.there | apply Upd.left)) (by first | rfl | exact dig_size _ | (rw [arr8_size]; first | exact sha_length _ | exact shaO_length _ | assumption)) (by first | rfl | exact dig_size _ | (rw [arr8_size]; first | exact sha_length _ | exact shaO_length _ | assumption)) (arr8_one _)) ?_
    refine JL.nil ?_
    refine JQ.thenN ?_
    refine JC.ret ?_
    refine JQ.endM1 (H' := []) (.inl rfl) rfl (by repeat (first | exact List.Mem.head _ | refine List.Mem.tail _ ?_ | refine List.mem_append_right _ ?_ | assumption)) ⟨_, (by repeat (first | exact .here | apply Upd.there | apply Upd.left)), by first | exact Sub.all | exact Sub.of_cnt (fun a => by (try dsimp only); simp only [cntA]; omega) | repeat (first | exact Sub.nil | refine Sub.cons (by first | exact .here | exact .there .here | exact .there (.there .here) | exact .there (.there (.there .here)) | exact .there (.there (.there (.there .here)))) ?_ | exact Sub.all), (.agg rfl (by repeat (first | exact List.Mem.head _ | refine List.Mem.tail _ ?_ | refine List.mem_append_right _ ?_ | assumption)) Tryd.underlying40 rfl Tryd.sizeOf40 (by first | rfl | exact dig_size _ | (rw [arr8_size]; first | exact sha_length _ | exact shaO_length _ | assumption)))⟩ ?_
    · exact congrArg (fun c => Value.agg (arr8 c)) (by unfold sha; rw [hsd]; rfl)

theorem Sum_any (oa : Option Addr) (cap : Nat) (l : List UInt8) (w : World) (hb : Bs w oa cap l) (hl : l.length ≤ 1000000) (hk : KMem 1 w) (hf : FMem 0 w) :
    Calls Tryd.prog 56 #[.slice oa l.length cap] w (Ret w (fun v _ => v = .tuple #[.agg (arr8 (shaO l)), .int .i64 (if 8192 < l.length then 4 else 0)])) := by
  refine enter (vs := [.slice oa l.length cap]) Tryd.func56 rfl Tryd.ntmps56 rfl ?_
  refine JC.seq ?_
  -- region 0
  refine JC.region ?_
  refine JL.new rfl rfl rfl (.none rfl) (En.allocZ (cs := arr8 (List.replicate 32 0)) Tryd.zeroValue40 rfl) (fun b2 hb2 => ?_)
  refine JL.val rfl rfl rfl (.none rfl) (Ev.assign rfl) ?_
  refine JL.nil ?_
  refine JQ.thenN ?_
  refine JC.seq ?_
  refine JC.seq ?_
  -- region 1
  refine JC.region ?_
  refine JL.val rfl rfl rfl (.none rfl) (Ev.move rfl) ?_
  refine JL.val rfl rfl rfl (.none rfl) (Ev.lenS rfl Tryd.underlying88) ?_
  refine JL.val rfl rfl rfl (.none rfl) (Ev.bin rfl rfl gtr_int) ?_
  refine JL.nil ?_
  refine JQ.thenN ?_
  refine JC.cond rfl (fun hc1 => ?_) (fun hc1 => ?_)
  · -- t6 True
    replace hc1 := of_decide_eq_true hc1
    have hc : 8192 < l.length := by omega
    refine JC.seq ?_
    -- region 2
    refine JC.region ?_
    refine JL.val rfl rfl rfl (.none rfl) (Ev.bu0 Tryd.underlying40 Tryd.sizeOf5 Tryd.zeroValue40) ?_
    refine JL.sto rfl rfl (.none rfl) (Es.storeA rfl rfl Tryd.sizeOf40 (by repeat (first | exact .here | apply Upd.there | apply Upd.left)) (by first | rfl | exact dig_size _ | (rw [arr8_size]; first | exact sha_length _ | exact shaO_length _ | assumption)) (by first | rfl | exact dig_size _ | (rw [arr8_size]; first | exact sha_length _ | exact shaO_length _ | assumption)) (by intro u hu; exact arr8_one (List.replicate 32 0) u hu)) ?_
    refine JL.val rfl rfl rfl (.none rfl) (Ev.assign rfl) ?_
    refine JL.nil ?_
    refine JQ.thenN ?_
    refine JC.ret ?_
    refine JQ.thenR ?_
    refine JQ.end2 (H' := []) (.inl rfl) rfl (.agg rfl (by repeat (first | exact List.Mem.head _ | refine List.Mem.tail _ ?_ | refine List.mem_append_right _ ?_ | assumption)) Tryd.underlying40 rfl Tryd.sizeOf40 (by first | rfl | exact dig_size _ | (rw [arr8_size]; first | exact sha_length _ | exact shaO_length _ | assumption))) (.tmp rfl) ?_ ?_
    · first | exact Sub.all | exact Sub.of_cnt (fun a => by (try dsimp only); simp only [cntA]; omega) | repeat (first | exact Sub.nil | refine Sub.cons (by first | exact .here | exact .there .here | exact .there (.there .here) | exact .there (.there (.there .here)) | exact .there (.there (.there (.there .here)))) ?_ | exact Sub.all)
    · rw [shaO_big hc, if_pos hc]; rfl
  · -- t6 False
    replace hc1 := of_decide_eq_false hc1
    have hc : ¬ 8192 < l.length := by omega
    refine JC.skip ?_
    refine JQ.thenN ?_
    refine JC.seq ?_
    -- region 3
    refine JC.region ?_
    refine JL.val rfl rfl rfl (.none rfl) (Ev.move rfl) ?_
    refine JL.callV rfl (.none rfl) rfl Tryd.call69 (fun w1 hw1 => sum_any oa cap l w1 (hb.old hw1) hl (hk.old hw1) (hf.old hw1)) ?_
    refine JL.sto rfl rfl (.none rfl) (Es.storeA rfl rfl Tryd.sizeOf40 (by repeat (first | exact .here | apply Upd.there | apply Upd.left)) (by first | rfl | exact dig_size _ | (rw [arr8_size]; first | exact sha_length _ | exact shaO_length _ | assumption)) (by first | rfl | exact dig_size _ | (rw [arr8_size]; first | exact sha_length _ | exact shaO_length _ | assumption)) (arr8_one (sha l))) ?_
    refine JL.val rfl rfl rfl (.none rfl) (Ev.assign rfl) ?_
    refine JL.nil ?_
    refine JQ.thenN ?_
    refine JC.ret ?_
    refine JQ.end2 (H' := []) (.inl rfl) rfl (.agg rfl (by repeat (first | exact List.Mem.head _ | refine List.Mem.tail _ ?_ | refine List.mem_append_right _ ?_ | assumption)) Tryd.underlying40 rfl Tryd.sizeOf40 (by first | rfl | exact dig_size _ | (rw [arr8_size]; first | exact sha_length _ | exact shaO_length _ | assumption))) (.tmp rfl) ?_ ?_
    · first | exact Sub.all | exact Sub.of_cnt (fun a => by (try dsimp only); simp only [cntA]; omega) | repeat (first | exact Sub.nil | refine Sub.cons (by first | exact .here | exact .there .here | exact .there (.there .here) | exact .there (.there (.there .here)) | exact .there (.there (.there (.there .here)))) ?_ | exact Sub.all)
    · rw [shaO_small hc, if_neg hc]

end Go.Proofs.YtjjoenbighmfoaaDoor
namespace Go.Proofs.YtjjoenbighmfoaaDoor
open Go Go.RowKit
set_option maxRecDepth 100000

def outP (s : St) (i : Nat) : List UInt8 := (outBytes s).take i ++ List.replicate (32 - i) 0
theorem shaO_length (l : List UInt8) : (shaO l).length = 32 := by unfold shaO; split <;> rfl

end Go.Proofs.YtjjoenbighmfoaaDoor
