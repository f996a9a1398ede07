/-
  Several small texts in one: Dig1, Dig2, Dig3, Ref1, Ref2, Dig4, Ref3, Dig5, Dig6.
-/
import Derived.Test.YtopaednfjjjnbaaDoorProg
import Derived.Test.YtopaednfjjjnbaaDoorPackANm
import Derived.KernelRfl
namespace Go.Proofs.YtopaednfjjjnbaaDoor
open Go Go.RowKit
set_option maxRecDepth 100000

theorem and31 {P : Program} {T : TypeId} {n : Nat} (hn : 0 < n) (hn1 : n < 32) : Bin P .and T (.int .u64 (IntKind.u64.wrap (-(n : Int)))) (.int .u64 31) (.int .u64 ((32 - n : Nat) : Int)) := Bin.int fun w => by
  have h1 : IntKind.u64.wrap (-(n : Int)) = ((18446744073709551616 - n : Nat) : Int) := by rw [IntKind.wrap_u64]; omega
  rw [h1]
  have h2 : (BitVec.ofInt 64 ((18446744073709551616 - n : Nat) : Int) &&& BitVec.ofInt 64 31).toNat = 32 - n := by
    rw [BitVec.toNat_and, BitVec.toNat_ofInt, BitVec.toNat_ofInt]
    have e1 : (((18446744073709551616 - n : Nat) : Int) % ((2 ^ 64 : Nat) : Int)).toNat = 18446744073709551616 - n := by omega
    have e2 : ((31 : Int) % ((2 ^ 64 : Nat) : Int)).toNat = 2 ^ 5 - 1 := by decide
    rw [e1, e2, Nat.and_two_pow_sub_one_eq_mod]
    omega
  simp only [binOp, Op.intBits]
  exact congrArg (fun m => Result.ok (Value.int IntKind.u64 m) w) ((congrArg (fun m : Nat => IntKind.u64.wrap (m : Int)) h2).trans (wrap_u64n _ (by omega)))
theorem sub32 {P : Program} {T : TypeId} {n : Nat} (hn : 0 < n) (hn1 : n < 32) : Bin P .sub T (.int .u64 32) (.int .u64 ((32 - n : Nat) : Int)) (.int .u64 (n : Int)) := Bin.int fun w => by
  have : IntKind.u64.wrap (32 - ((32 - n : Nat) : Int)) = (n : Int) := by rw [IntKind.wrap_u64]; omega
  simp only [binOp, Op.intArith, this]; rfl

theorem word_any (a : Addr) (len cap : Nat) (l : List UInt8) (w : World) (hm : BMem w a l) (hl : l.length = len) (h4 : 4 ≤ len) :
    Calls Tryd.prog 173 #[.slice (some a) len cap] w (Ret w (fun v _ => v = u32 (beWord l 0))) := by
  refine enter (vs := [.slice (some a) len cap]) Tryd.func173 rfl Tryd.ntmps173 rfl ?_
  refine JC.seq ?_
  -- region 0
  refine JC.region ?_
  refine JL.val rfl rfl rfl (.none rfl) (Ev.assign rfl) ?_
  refine JL.nil ?_
  refine JQ.thenN ?_
  refine JC.seq ?_
  -- region 1
  refine JC.regionQ (by kernel_rfl) (by kernel_rfl) ?_
  refine JW.val rfl rfl (.none rfl) (Ev.move rfl) ?_
  refine JW.val rfl rfl (.none rfl) (Ev.idxS1 (k := 0) rfl rfl Tryd.underlying28 Tryd.sizeOf5 rfl (by omega)) ?_
  refine JW.val rfl rfl (.none rfl) (Ev.load1 rfl Tryd.underlying5 rfl (Rd.old (hm.at (k := 0) (by omega)))) ?_
  refine JW.val rfl rfl (.none rfl) (Ev.conv rfl (conv_u8_u32 Tryd.underlying5 Tryd.underlying102)) ?_
  refine JW.val rfl rfl (.none rfl) (Ev.bin rfl rfl (shl_u32 (n := 24) (by decide))) ?_
  refine JW.val rfl rfl (.none rfl) (Ev.move rfl) ?_
  refine JW.val rfl rfl (.none rfl) (Ev.idxS1 (k := 1) rfl rfl Tryd.underlying28 Tryd.sizeOf5 rfl (by omega)) ?_
  refine JW.val rfl rfl (.none rfl) (Ev.load1 rfl Tryd.underlying5 rfl (Rd.old (hm.at (k := 1) (by omega)))) ?_
  refine JW.val rfl rfl (.none rfl) (Ev.conv rfl (conv_u8_u32 Tryd.underlying5 Tryd.underlying102)) ?_
  refine JW.val rfl rfl (.none rfl) (Ev.bin rfl rfl (shl_u32 (n := 16) (by decide))) ?_
  refine JW.val rfl rfl (.none rfl) (Ev.bin rfl rfl or_u32) ?_
  refine JW.val rfl rfl (.none rfl) (Ev.move rfl) ?_
  refine JW.val rfl rfl (.none rfl) (Ev.idxS1 (k := 2) rfl rfl Tryd.underlying28 Tryd.sizeOf5 rfl (by omega)) ?_
  refine JW.val rfl rfl (.none rfl) (Ev.load1 rfl Tryd.underlying5 rfl (Rd.old (hm.at (k := 2) (by omega)))) ?_
  refine JW.val rfl rfl (.none rfl) (Ev.conv rfl (conv_u8_u32 Tryd.underlying5 Tryd.underlying102)) ?_
  refine JW.val rfl rfl (.none rfl) (Ev.bin rfl rfl (shl_u32 (n := 8) (by decide))) ?_
  refine JW.val rfl rfl (.none rfl) (Ev.bin rfl rfl or_u32) ?_
  refine JW.val rfl rfl (.none rfl) (Ev.move rfl) ?_
  refine JW.val rfl rfl (.none rfl) (Ev.idxS1 (k := 3) rfl rfl Tryd.underlying28 Tryd.sizeOf5 rfl (by omega)) ?_
  refine JW.val rfl rfl (.none rfl) (Ev.load1 rfl Tryd.underlying5 rfl (Rd.old (hm.at (k := 3) (by omega)))) ?_
  refine JW.val rfl rfl (.none rfl) (Ev.conv rfl (conv_u8_u32 Tryd.underlying5 Tryd.underlying102)) ?_
  refine JW.val rfl rfl (.none rfl) (Ev.bin rfl rfl or_u32) ?_
  refine JW.val rfl rfl (.none rfl) (Ev.assign rfl) ?_
  refine JW.nilQ ?_
  refine JQ.thenN ?_
  refine JC.ret ?_
  refine JQ.end1 (H' := []) (.inl rfl) rfl (.tmp rfl) ?_ ?_
  · first | exact Sub.all | exact Sub.of_cnt (fun a => by (try dsimp only); simp only [cntA]; omega) | repeat (first | exact Sub.nil | refine Sub.cons (by first | exact .here | exact .there .here | exact .there (.there .here) | exact .there (.there (.there .here)) | exact .there (.there (.there (.there .here)))) ?_ | exact Sub.all)
  · exact rfl

theorem rot_any (x : UInt32) (n : Nat) (hn : 0 < n) (hn1 : n < 32) (w : World) :
    Calls Tryd.prog 174 #[u32 x, .int .i64 (-(n : Int))] w (Ret w (fun v _ => v = u32 (rotr x n))) := by
  refine enter (vs := [u32 x, .int .i64 (-(n : Int))]) Tryd.func174 rfl Tryd.ntmps174 rfl ?_
  refine JC.seq ?_
  -- region 0
  refine JC.region ?_
  refine JL.val rfl rfl rfl (.none rfl) (Ev.assign rfl) ?_
  refine JL.nil ?_
  refine JQ.thenN ?_
  refine JC.seq ?_
  -- region 1
  refine JC.region ?_
  refine JL.val rfl rfl rfl (.none rfl) (Ev.move rfl) ?_
  refine JL.val rfl rfl rfl (.none rfl) (Ev.conv rfl (conv_int Tryd.underlying3 Tryd.underlying103)) ?_
  refine JL.val rfl rfl rfl (.none rfl) (Ev.bin rfl rfl (and31 hn hn1)) ?_
  refine JL.val rfl rfl rfl (.none rfl) (Ev.assign rfl) ?_
  refine JL.nil ?_
  refine JQ.thenN ?_
  refine JC.seq ?_
  -- region 2
  refine JC.region ?_
  refine JL.val rfl rfl rfl (.none rfl) (Ev.move rfl) ?_
  refine JL.val rfl rfl rfl (.none rfl) (Ev.move rfl) ?_
  refine JL.val rfl rfl rfl (.none rfl) (Ev.bin rfl rfl (shl_u32 (n := 32 - n) (by omega))) ?_
  refine JL.val rfl rfl rfl (.none rfl) (Ev.move rfl) ?_
  refine JL.val rfl rfl rfl (.none rfl) (Ev.move rfl) ?_
  refine JL.val rfl rfl rfl (.none rfl) (Ev.bin rfl rfl (sub32 hn hn1)) ?_
  refine JL.val rfl rfl rfl (.none rfl) (Ev.bin rfl rfl (shr_u32 (n := n) (by omega))) ?_
  refine JL.val rfl rfl rfl (.none rfl) (Ev.bin rfl rfl or_u32) ?_
  refine JL.val rfl rfl rfl (.none rfl) (Ev.assign rfl) ?_
  refine JL.nil ?_
  refine JQ.thenN ?_
  refine JC.ret ?_
  refine JQ.end1 (H' := []) (.inl rfl) rfl (.tmp rfl) ?_ ?_
  · first | exact Sub.all | exact Sub.of_cnt (fun a => by (try dsimp only); simp only [cntA]; omega) | repeat (first | exact Sub.nil | refine Sub.cons (by first | exact .here | exact .there .here | exact .there (.there .here) | exact .there (.there (.there .here)) | exact .there (.there (.there (.there .here)))) ?_ | exact Sub.all)
  · rw [rotr, UInt32.or_comm]

theorem right_any (x : UInt32) (n : Nat) (hn : 0 < n) (hn1 : n < 32) (w : World) :
    Calls Tryd.prog 160 #[u32 x, .int .i64 (n : Int)] w (Ret w (fun v _ => v = u32 (rotr x n))) := by
  refine enter (vs := [u32 x, .int .i64 (n : Int)]) Tryd.func160 rfl Tryd.ntmps160 rfl ?_
  refine JC.seq ?_
  -- region 0
  refine JC.region ?_
  refine JL.val rfl rfl rfl (.none rfl) (Ev.assign rfl) ?_
  refine JL.nil ?_
  refine JQ.thenN ?_
  refine JC.seq ?_
  -- region 1
  refine JC.region ?_
  refine JL.val rfl rfl rfl (.none rfl) (Ev.move rfl) ?_
  refine JL.val rfl rfl rfl (.none rfl) (Ev.move rfl) ?_
  refine JL.val rfl rfl rfl (.none rfl) (Ev.neg64 rfl (by omega)) ?_
  refine JL.callV rfl (.none rfl) rfl Tryd.call174 (fun w1 hw1 => rot_any x n hn hn1 w1) ?_
  refine JL.val rfl rfl rfl (.none rfl) (Ev.assign rfl) ?_
  refine JL.nil ?_
  refine JQ.thenN ?_
  refine JC.ret ?_
  refine JQ.end1 (H' := []) (.inl rfl) rfl (.tmp rfl) ?_ ?_
  · first | exact Sub.all | exact Sub.of_cnt (fun a => by (try dsimp only); simp only [cntA]; omega) | repeat (first | exact Sub.nil | refine Sub.cons (by first | exact .here | exact .there .here | exact .there (.there .here) | exact .there (.there (.there .here)) | exact .there (.there (.there (.there .here)))) ?_ | exact Sub.all)
  · exact rfl

theorem spread_any (a : Addr) (cap : Nat) (l : List UInt8) (w : World) (hm : BMem w a l) (hl : l.length = 64) (hc : 64 ≤ cap) :
    Calls Tryd.prog 159 #[.slice (some a) 64 cap] w (Ret w (fun v _ => v = .agg (arr32 (sched l 64)))) := by
  refine enter (vs := [.slice (some a) 64 cap]) Tryd.func159 rfl Tryd.ntmps159 rfl ?_
  refine JC.seq ?_
  -- region 0
  refine JC.region ?_
  refine JL.new rfl rfl rfl (.none rfl) (En.allocZ (cs := arr32 (List.replicate 64 0)) Tryd.zeroValue214 rfl) (fun b2 hb2 => ?_)
  refine JL.nil ?_
  refine JQ.thenN ?_
  refine JC.seq ?_
  refine JC.seq ?_
  -- region 1
  refine JC.region ?_
  refine JL.val rfl rfl rfl (.none rfl) (Ev.move rfl) ?_
  refine JL.nil ?_
  refine JQ.thenN ?_
  refine JC.block ?_
  refine JC.reH (o' := .cells (arr32 (fillW l 0)) 214 (0, 0)) .here rfl ?_
  refine JC.loop (X := Nat)
    (fun k => [(0, .slice (some a) 64 cap), (2, .pointer (some ⟨b2, 0, none⟩)), (7, .int .i64 (k : Int))])
    (fun k => [(b2, .cells (arr32 (fillW l k)) 214 (0, 0))])
    (fun k => k ≤ 16)
    (fun k => 16 - k) 0 ?_ ?_ ?_ ?_
  · exact Keeps.get (by repeat (first | exact Keeps.nil | refine Keeps.cons rfl ?_))
  · first | exact Sub.all | exact Sub.of_cnt (fun a => by (try dsimp only); simp only [cntA]; omega) | repeat (first | exact Sub.nil | refine Sub.cons (by first | exact .here | exact .there .here | exact .there (.there .here) | exact .there (.there (.there .here)) | exact .there (.there (.there (.there .here)))) ?_ | exact Sub.all)
  · omega
  rintro k hk
  refine JC.seq ?_
  -- region 2
  refine JC.region ?_
  refine JL.val rfl rfl rfl (.none rfl) (Ev.bin rfl rfl lss_int) ?_
  refine JL.nil ?_
  refine JQ.thenN ?_
  refine JC.seq ?_
  refine JC.cond rfl (fun hc1 => ?_) (fun hc1 => ?_)
  · -- t8 True
    replace hc1 := of_decide_eq_true hc1
    refine JC.skip ?_
    refine JQ.thenN ?_
    refine JC.seq ?_
    refine JC.block ?_
    refine JC.seq ?_
    -- region 3
    refine JC.region ?_
    refine JL.val rfl rfl rfl (.none rfl) (Ev.move rfl) ?_
    refine JL.val rfl rfl rfl (.none rfl) (Ev.assign rfl) ?_
    refine JL.nil ?_
    refine JQ.thenN ?_
    -- region 4
    refine JC.region ?_
    refine JL.val rfl rfl rfl (.none rfl) (Ev.move rfl) ?_
    refine JL.val rfl rfl rfl (.none rfl) (Ev.move rfl) ?_
    refine JL.val rfl rfl rfl (.none rfl) (Ev.move rfl) ?_
    refine JL.val rfl rfl rfl (.none rfl) (Ev.bin rfl rfl (mul_i64 (by omega))) ?_
    refine JL.val rfl rfl rfl (.none rfl) (Ev.sliceLo rfl rfl Tryd.underlying28 Tryd.sizeOf5 (l := 4 * k) (by omega) (by omega)) ?_
    refine JL.re (d := 14) rfl (sub3_some (by omega)) ?_
    refine JL.callV rfl (.none rfl) rfl Tryd.call173 (fun w1 hw1 => word_any (a.add (4 * k)) (64 - 4 * k) (cap - 4 * k) (l.drop (4 * k)) w1 ((hm.drop _).old hw1) (by simp [hl]) (by omega)) ?_
    refine JL.val rfl rfl rfl (.none rfl) (Ev.idxB1 rfl rfl Tryd.underlying214 Tryd.sizeOf102 rfl (by omega)) ?_
    refine JL.sto rfl rfl (.none rfl) (Es.store1 rfl rfl Tryd.sizeOf102 rfl rfl (by repeat (first | exact .here | apply Upd.there | apply Upd.left)) (by rw [arr32_size, fillW_length _ (by omega)]; omega)) ?_
    refine JL.nil ?_
    refine JQ.blockN ?_
    refine JQ.thenN ?_
    -- region 5
    refine JC.region ?_
    refine JL.val rfl rfl rfl (.none rfl) (Ev.bin rfl rfl (add_i64 (by omega))) ?_
    refine JL.val rfl rfl rfl (.none rfl) (Ev.move rfl) ?_
    refine JL.nil ?_
    refine JQ.reH .here (congrArg (fun c => Obj.cells c 214 (0, 0)) (fillW_set l (by omega) (by rw [if_pos (by omega), beWord_drop]))) ?_
    refine JQ.loopN (k + 1) ?_ ?_ ?_ ?_
    · exact Keeps.get (by repeat (first | exact Keeps.nil | refine Keeps.cons rfl ?_))
    · first | exact Sub.all | exact Sub.of_cnt (fun a => by (try dsimp only); simp only [cntA]; omega) | repeat (first | exact Sub.nil | refine Sub.cons (by first | exact .here | exact .there .here | exact .there (.there .here) | exact .there (.there (.there .here)) | exact .there (.there (.there (.there .here)))) ?_ | exact Sub.all)
    · omega
    · omega
  · -- t8 False
    replace hc1 := of_decide_eq_false hc1
    refine JC.exit ?_
    refine JQ.thenE ?_
    refine JQ.thenE ?_
    refine JQ.blockE ?_
    refine JQ.thenN ?_
    refine JC.seq ?_
    refine JC.seq ?_
    -- region 6
    refine JC.region ?_
    refine JL.val rfl rfl rfl (.none rfl) (Ev.assign rfl) ?_
    refine JL.nil ?_
    refine JQ.thenN ?_
    refine JC.block ?_
    obtain rfl : k = 16 := by omega
    refine JC.loop (X := Nat)
      (fun k => [(2, .pointer (some ⟨b2, 0, none⟩)), (4, .int .i64 (k : Int))])
      (fun k => [(b2, .cells (arr32 (fillW l k)) 214 (0, 0))])
      (fun k => 16 ≤ k ∧ k ≤ 64)
      (fun k => 64 - k) 16 ?_ ?_ ?_ ?_
    · exact Keeps.get (by repeat (first | exact Keeps.nil | refine Keeps.cons rfl ?_))
    · first | exact Sub.all | exact Sub.of_cnt (fun a => by (try dsimp only); simp only [cntA]; omega) | repeat (first | exact Sub.nil | refine Sub.cons (by first | exact .here | exact .there .here | exact .there (.there .here) | exact .there (.there (.there .here)) | exact .there (.there (.there (.there .here)))) ?_ | exact Sub.all)
    · omega
    rintro k hk
    refine JC.seq ?_
    refine JC.seq ?_
    -- region 7
    refine JC.region ?_
    refine JL.val rfl rfl rfl (.none rfl) (Ev.move rfl) ?_
    refine JL.val rfl rfl rfl (.none rfl) (Ev.bin rfl rfl lss_int) ?_
    refine JL.nil ?_
    refine JQ.thenN ?_
    refine JC.cond rfl (fun hc2 => ?_) (fun hc2 => ?_)
    · -- t19 True
      replace hc2 := of_decide_eq_true hc2
      refine JC.skip ?_
      refine JQ.thenN ?_
      refine JC.seq ?_
      refine JC.block ?_
      refine JC.seq ?_
      -- region 9
      refine JC.regionQ (by kernel_rfl) (by kernel_rfl) ?_
      refine JW.val rfl rfl (.none rfl) (Ev.move rfl) ?_
      refine JW.val rfl rfl (.none rfl) (Ev.bin rfl rfl (sub_i64 (by omega))) ?_
      refine JW.val rfl rfl (.none rfl) (Ev.idxB1 rfl rfl Tryd.underlying214 Tryd.sizeOf102 (k := k - 15) (by omega) (by omega)) ?_
      refine JW.val rfl rfl (.none rfl) (Ev.load1 rfl Tryd.underlying102 rfl (Rd.own (by repeat (first | exact List.Mem.head _ | refine List.Mem.tail _ ?_ | refine List.mem_append_right _ ?_ | assumption)) (fillW_get l (by omega)))) ?_
      refine JW.val rfl rfl (.none rfl) (Ev.move rfl) ?_
      refine JW.val rfl rfl (.none rfl) (Ev.bin rfl rfl (sub_i64 (by omega))) ?_
      refine JW.val rfl rfl (.none rfl) (Ev.idxB1 rfl rfl Tryd.underlying214 Tryd.sizeOf102 (k := k - 2) (by omega) (by omega)) ?_
      refine JW.val rfl rfl (.none rfl) (Ev.load1 rfl Tryd.underlying102 rfl (Rd.own (by repeat (first | exact List.Mem.head _ | refine List.Mem.tail _ ?_ | refine List.mem_append_right _ ?_ | assumption)) (fillW_get l (by omega)))) ?_
      refine JW.val rfl rfl (.none rfl) (Ev.assign rfl) ?_
      refine JW.val rfl rfl (.none rfl) (Ev.assign rfl) ?_
      refine JW.nilQ ?_
      refine JQ.thenN ?_
      -- region 10
      refine JC.regionT 29 (by kernel_rfl) (by kernel_rfl) (List.take_append_drop 29 _).symm rfl ?_
      refine JW.val rfl rfl (.none rfl) (Ev.move rfl) ?_
      refine JW.val rfl rfl (.none rfl) (Ev.move rfl) ?_
      refine JW.val rfl rfl (.none rfl) (Ev.bin rfl rfl (sub_i64 (by omega))) ?_
      refine JW.val rfl rfl (.none rfl) (Ev.idxB1 rfl rfl Tryd.underlying214 Tryd.sizeOf102 (k := k - 16) (by omega) (by omega)) ?_
      refine JW.val rfl rfl (.none rfl) (Ev.load1 rfl Tryd.underlying102 rfl (Rd.own (by repeat (first | exact List.Mem.head _ | refine List.Mem.tail _ ?_ | refine List.mem_append_right _ ?_ | assumption)) (fillW_get l (by omega)))) ?_
      refine JW.val rfl rfl (.none rfl) (Ev.move rfl) ?_
      refine JW.call rfl (.none rfl) rfl Tryd.call160 (fun w1 hw1 => right_any _ 7 (by decide) (by decide) w1) ?_
      refine JW.val rfl rfl (.none rfl) (Ev.move rfl) ?_
      refine JW.call rfl (.none rfl) rfl Tryd.call160 (fun w1 hw1 => right_any _ 18 (by decide) (by decide) w1) ?_
      refine JW.val rfl rfl (.none rfl) (Ev.bin rfl rfl xor_u32) ?_
      refine JW.val rfl rfl (.none rfl) (Ev.move rfl) ?_
      refine JW.val rfl rfl (.none rfl) (Ev.bin rfl rfl (shr_u32 (n := 3) (by decide))) ?_
      refine JW.val rfl rfl (.none rfl) (Ev.bin rfl rfl xor_u32) ?_
      refine JW.val rfl rfl (.none rfl) (Ev.bin rfl rfl add_u32) ?_
      refine JW.val rfl rfl (.none rfl) (Ev.move rfl) ?_
      refine JW.val rfl rfl (.none rfl) (Ev.bin rfl rfl (sub_i64 (by omega))) ?_
      refine JW.val rfl rfl (.none rfl) (Ev.idxB1 rfl rfl Tryd.underlying214 Tryd.sizeOf102 (k := k - 7) (by omega) (by omega)) ?_
      refine JW.val rfl rfl (.none rfl) (Ev.load1 rfl Tryd.underlying102 rfl (Rd.own (by repeat (first | exact List.Mem.head _ | refine List.Mem.tail _ ?_ | refine List.mem_append_right _ ?_ | assumption)) (fillW_get l (by omega)))) ?_
      refine JW.val rfl rfl (.none rfl) (Ev.bin rfl rfl add_u32) ?_
      refine JW.val rfl rfl (.none rfl) (Ev.move rfl) ?_
      refine JW.call rfl (.none rfl) rfl Tryd.call160 (fun w1 hw1 => right_any _ 17 (by decide) (by decide) w1) ?_
      refine JW.val rfl rfl (.none rfl) (Ev.move rfl) ?_
      refine JW.call rfl (.none rfl) rfl Tryd.call160 (fun w1 hw1 => right_any _ 19 (by decide) (by decide) w1) ?_
      refine JW.val rfl rfl (.none rfl) (Ev.bin rfl rfl xor_u32) ?_
      refine JW.val rfl rfl (.none rfl) (Ev.move rfl) ?_
      refine JW.val rfl rfl (.none rfl) (Ev.bin rfl rfl (shr_u32 (n := 10) (by decide))) ?_
      refine JW.val rfl rfl (.none rfl) (Ev.bin rfl rfl xor_u32) ?_
      refine JW.val rfl rfl (.none rfl) (Ev.bin rfl rfl add_u32) ?_
      refine JW.val rfl rfl (.none rfl) (Ev.idxB1 rfl rfl Tryd.underlying214 Tryd.sizeOf102 (k := k) rfl (by omega)) ?_
      refine JW.tail ?_
      refine JL.sto rfl rfl (.none rfl) (Es.store1 rfl rfl Tryd.sizeOf102 rfl rfl (by repeat (first | exact .here | apply Upd.there | apply Upd.left)) (by rw [arr32_size, fillW_length _ (by omega)]; omega)) ?_
      refine JL.nil ?_
      refine JQ.blockN ?_
      refine JQ.thenN ?_
      -- region 8
      refine JC.region ?_
      refine JL.val rfl rfl rfl (.none rfl) (Ev.move rfl) ?_
      refine JL.val rfl rfl rfl (.none rfl) (Ev.bin rfl rfl (add_i64 (by omega))) ?_
      refine JL.val rfl rfl rfl (.none rfl) (Ev.assign rfl) ?_
      refine JL.nil ?_
      refine JQ.reH .here (congrArg (fun c => Obj.cells c 214 (0, 0)) (fillW_set l (by omega) (by rw [if_neg (by omega)]; rfl))) ?_
      refine JQ.loopN (k + 1) ?_ ?_ ?_ ?_
      · exact Keeps.get (by repeat (first | exact Keeps.nil | refine Keeps.cons rfl ?_))
      · first | exact Sub.all | exact Sub.of_cnt (fun a => by (try dsimp only); simp only [cntA]; omega) | repeat (first | exact Sub.nil | refine Sub.cons (by first | exact .here | exact .there .here | exact .there (.there .here) | exact .there (.there (.there .here)) | exact .there (.there (.there (.there .here)))) ?_ | exact Sub.all)
      · omega
      · omega
    · -- t19 False
      replace hc2 := of_decide_eq_false hc2
      refine JC.exit ?_
      refine JQ.thenE ?_
      refine JQ.thenE ?_
      refine JQ.blockE ?_
      refine JQ.thenN ?_
      refine JC.seq ?_
      -- region 11
      refine JC.region ?_
      refine JL.val rfl rfl rfl (.none rfl) (Ev.loadB rfl (by repeat (first | exact List.Mem.head _ | refine List.Mem.tail _ ?_ | refine List.mem_append_right _ ?_ | assumption)) Tryd.underlying214 rfl Tryd.sizeOf214 (by rw [arr32_size, fillW_length _ (by omega)])) ?_
      refine JL.sto rfl rfl (.none rfl) (Es.storeA rfl rfl Tryd.sizeOf214 (by repeat (first | exact .here | apply Upd.there | apply Upd.left)) (by rw [arr32_size, fillW_length _ (by omega)]) (by rw [arr32_size, fillW_length _ (by omega)]) (arr32_one _)) ?_
      refine JL.nil ?_
      refine JQ.thenN ?_
      refine JC.ret ?_
      obtain rfl : k = 64 := by omega
      refine JQ.reH .here (congrArg (fun c => Obj.cells c 214 (0, 0)) (congrArg arr32 (fillW_all l))) ?_
      refine JQ.end1 (H' := []) (.inl rfl) rfl (.agg rfl (by repeat (first | exact List.Mem.head _ | refine List.Mem.tail _ ?_ | refine List.mem_append_right _ ?_ | assumption)) Tryd.underlying214 rfl Tryd.sizeOf214 (by rw [arr32_size, sched_length])) ?_ ?_
      · first | exact Sub.all | exact Sub.of_cnt (fun a => by (try dsimp only); simp only [cntA]; omega) | repeat (first | exact Sub.nil | refine Sub.cons (by first | exact .here | exact .there .here | exact .there (.there .here) | exact .there (.there (.there .here)) | exact .there (.there (.there (.there .here)))) ?_ | exact Sub.all)
      · exact rfl

end Go.Proofs.YtopaednfjjjnbaaDoor
namespace Go.Proofs.YtopaednfjjjnbaaDoor
open Go Go.RowKit
set_option maxRecDepth 100000

theorem step_any (s : St) (a : Addr) (cap : Nat) (l : List UInt8) (w : World) (hk : KMem 1 w) (hm : BMem w a l) (hl : l.length = 64) (hc : 64 ≤ cap) :
    Calls Tryd.prog 138 #[.agg (arr32 s.l), .slice (some a) 64 cap] w (Ret w (fun v _ => v = .agg (arr32 (comp s l).l))) := by
  refine enter (vs := [.agg (arr32 s.l), .slice (some a) 64 cap]) Tryd.func138 rfl Tryd.ntmps138 rfl ?_
  refine JC.seq ?_
  -- region 0
  refine JC.region ?_
  refine JL.new rfl rfl rfl (.none rfl) (En.boxA rfl) (fun b2 hb2 => ?_)
  refine JL.new rfl rfl rfl (.none rfl) (En.allocZ (cs := arr32 (List.replicate 8 0)) Tryd.zeroValue192 rfl) (fun b4 hb4 => ?_)
  refine JL.nil ?_
  refine JQ.reH (o' := .cells (arr32 (List.replicate 8 0)) 192 (0, 0)) .here rfl ?_
  refine JQ.thenN ?_
  refine JC.seq ?_
  -- region 1
  refine JC.cut (X := Nat × Nat) (fun ⟨b5, b6⟩ => [(2, .pointer (some ⟨b2, 0, none⟩)), (4, .pointer (some ⟨b4, 0, none⟩)), (5, .pointer (some ⟨b5, 0, none⟩)), (6, .pointer (some ⟨b6, 0, none⟩))]) (fun ⟨b5, b6⟩ => [(b6, .cells (arr32 s.l) 192 (0, 0)), (b5, .cells (arr32 (sched l 64)) 214 (0, 0)), (b4, .cells (arr32 (List.replicate 8 0)) 192 (0, 0)), (b2, .cells (arr32 s.l) 192 (0, 0))]) ?_ ?_
  · refine JC.regionA (by kernel_rfl) ?_
    refine JA.take 0 rfl rfl rfl rfl (by kernel_rfl) (by kernel_rfl) (by kernel_rfl) (fun _ _ _ h => absurd h.1 (by simp)) (fun _ _ => rfl) (.none rfl) (fun _ => (Ev.move rfl)) ?_
    refine JA.branch [1, 2, 3, 4] (by kernel_rfl) rfl ?_
    refine JAll.cons rfl ?_ ?_
    · -- 1
      refine JO.callV rfl (.none rfl) rfl Tryd.call159 (fun w1 hw1 => spread_any a cap l w1 (hm.old hw1) hl hc) ?_
      refine JA.branch [2, 3, 4] (by kernel_rfl) rfl ?_
      refine JAll.cons rfl ?_ ?_
      · -- 2
        refine JO.val rfl rfl rfl (.none rfl) (Ev.loadB rfl (by repeat (first | exact List.Mem.head _ | refine List.Mem.tail _ ?_ | refine List.mem_append_right _ ?_ | assumption)) Tryd.underlying192 rfl Tryd.sizeOf192 (by first | rfl | exact dig_size _ | (rw [arr8_size]; first | exact sha_length _ | exact shaO_length _ | assumption))) ?_
        refine JA.branch [3, 4] (by kernel_rfl) rfl ?_
        refine JAll.cons rfl ?_ ?_
        · -- 3
          refine JO.new rfl rfl rfl (.none rfl) (En.allocZ (cs := arr32 (List.replicate 64 0)) Tryd.zeroValue214 rfl) (fun b5 hb5 => ?_)
          refine JA.branch [4] (by kernel_rfl) rfl ?_
          refine JAll.cons rfl ?_ JAll.nil
          refine JO.new rfl rfl rfl (.none rfl) (En.allocZ (cs := arr32 (List.replicate 8 0)) Tryd.zeroValue192 rfl) (fun b6 hb6 => ?_)
          refine JA.branch [5] (by kernel_rfl) rfl ?_
          refine JAll.cons rfl ?_ JAll.nil
          refine JO.sto rfl rfl (.none rfl) (Es.storeA rfl rfl Tryd.sizeOf214 (by repeat (first | exact .here | apply Upd.there | apply Upd.left)) (by rw [arr32_size, sched_length]) (by first | rfl | exact dig_size _ | (rw [arr8_size]; first | exact sha_length _ | exact shaO_length _ | assumption)) (arr32_one _)) ?_
          refine JA.branch [6] (by kernel_rfl) rfl ?_
          refine JAll.cons rfl ?_ JAll.nil
          refine JO.sto rfl rfl (.none rfl) (Es.storeA rfl rfl Tryd.sizeOf192 (by repeat (first | exact .here | apply Upd.there | apply Upd.left)) (by first | rfl | exact dig_size _ | (rw [arr8_size]; first | exact sha_length _ | exact shaO_length _ | assumption)) (by first | rfl | exact dig_size _ | (rw [arr8_size]; first | exact sha_length _ | exact shaO_length _ | assumption)) (arr32_one _)) ?_
          refine JA.done (by kernel_rfl) ?_
          refine JQ.cutN (b5, b6) ?_ ?_
          · exact Keeps.get (by repeat (first | exact Keeps.nil | refine Keeps.cons rfl ?_))
          · first | exact Sub.all | exact Sub.of_cnt (fun a => by (try dsimp only); simp only [cntA]; omega) | repeat (first | exact Sub.nil | refine Sub.cons (by first | exact .here | exact .there .here | exact .there (.there .here) | exact .there (.there (.there .here)) | exact .there (.there (.there (.there .here)))) ?_ | exact Sub.all)
        refine JAll.cons rfl ?_ JAll.nil
        refine JO.new rfl rfl rfl (.none rfl) (En.allocZ (cs := arr32 (List.replicate 8 0)) Tryd.zeroValue192 rfl) (fun b6 hb6 => ?_)
        refine JA.branch [3] (by kernel_rfl) rfl ?_
        refine JAll.cons rfl ?_ JAll.nil
        refine JO.new rfl rfl rfl (.none rfl) (En.allocZ (cs := arr32 (List.replicate 64 0)) Tryd.zeroValue214 rfl) (fun b5 hb5 => ?_)
        refine JA.branch [5] (by kernel_rfl) rfl ?_
        refine JAll.cons rfl ?_ JAll.nil
        refine JO.sto rfl rfl (.none rfl) (Es.storeA rfl rfl Tryd.sizeOf214 (by repeat (first | exact .here | apply Upd.there | apply Upd.left)) (by rw [arr32_size, sched_length]) (by first | rfl | exact dig_size _ | (rw [arr8_size]; first | exact sha_length _ | exact shaO_length _ | assumption)) (arr32_one _)) ?_
        refine JA.branch [6] (by kernel_rfl) rfl ?_
        refine JAll.cons rfl ?_ JAll.nil
        refine JO.sto rfl rfl (.none rfl) (Es.storeA rfl rfl Tryd.sizeOf192 (by repeat (first | exact .here | apply Upd.there | apply Upd.left)) (by first | rfl | exact dig_size _ | (rw [arr8_size]; first | exact sha_length _ | exact shaO_length _ | assumption)) (by first | rfl | exact dig_size _ | (rw [arr8_size]; first | exact sha_length _ | exact shaO_length _ | assumption)) (arr32_one _)) ?_
        refine JA.done (by kernel_rfl) ?_
        refine JQ.cutN (b5, b6) ?_ ?_
        · exact Keeps.get (by repeat (first | exact Keeps.nil | refine Keeps.cons rfl ?_))
        · first | exact Sub.all | exact Sub.of_cnt (fun a => by (try dsimp only); simp only [cntA]; omega) | repeat (first | exact Sub.nil | refine Sub.cons (by first | exact .here | exact .there .here | exact .there (.there .here) | exact .there (.there (.there .here)) | exact .there (.there (.there (.there .here)))) ?_ | exact Sub.all)
      refine JAll.cons rfl ?_ ?_
      · -- 3
        refine JO.new rfl rfl rfl (.none rfl) (En.allocZ (cs := arr32 (List.replicate 64 0)) Tryd.zeroValue214 rfl) (fun b5 hb5 => ?_)
        refine JA.branch [2, 4] (by kernel_rfl) rfl ?_
        refine JAll.cons rfl ?_ ?_
        · -- 2
          refine JO.val rfl rfl rfl (.none rfl) (Ev.loadB rfl (by repeat (first | exact List.Mem.head _ | refine List.Mem.tail _ ?_ | refine List.mem_append_right _ ?_ | assumption)) Tryd.underlying192 rfl Tryd.sizeOf192 (by first | rfl | exact dig_size _ | (rw [arr8_size]; first | exact sha_length _ | exact shaO_length _ | assumption))) ?_
          refine JA.branch [4] (by kernel_rfl) rfl ?_
          refine JAll.cons rfl ?_ JAll.nil
          refine JO.new rfl rfl rfl (.none rfl) (En.allocZ (cs := arr32 (List.replicate 8 0)) Tryd.zeroValue192 rfl) (fun b6 hb6 => ?_)
          refine JA.branch [5] (by kernel_rfl) rfl ?_
          refine JAll.cons rfl ?_ JAll.nil
          refine JO.sto rfl rfl (.none rfl) (Es.storeA rfl rfl Tryd.sizeOf214 (by repeat (first | exact .here | apply Upd.there | apply Upd.left)) (by rw [arr32_size, sched_length]) (by first | rfl | exact dig_size _ | (rw [arr8_size]; first | exact sha_length _ | exact shaO_length _ | assumption)) (arr32_one _)) ?_
          refine JA.branch [6] (by kernel_rfl) rfl ?_
          refine JAll.cons rfl ?_ JAll.nil
          refine JO.sto rfl rfl (.none rfl) (Es.storeA rfl rfl Tryd.sizeOf192 (by repeat (first | exact .here | apply Upd.there | apply Upd.left)) (by first | rfl | exact dig_size _ | (rw [arr8_size]; first | exact sha_length _ | exact shaO_length _ | assumption)) (by first | rfl | exact dig_size _ | (rw [arr8_size]; first | exact sha_length _ | exact shaO_length _ | assumption)) (arr32_one _)) ?_
          refine JA.done (by kernel_rfl) ?_
          refine JQ.cutN (b5, b6) ?_ ?_
          · exact Keeps.get (by repeat (first | exact Keeps.nil | refine Keeps.cons rfl ?_))
          · first | exact Sub.all | exact Sub.of_cnt (fun a => by (try dsimp only); simp only [cntA]; omega) | repeat (first | exact Sub.nil | refine Sub.cons (by first | exact .here | exact .there .here | exact .there (.there .here) | exact .there (.there (.there .here)) | exact .there (.there (.there (.there .here)))) ?_ | exact Sub.all)
        refine JAll.cons rfl ?_ JAll.nil
        refine JO.new rfl rfl rfl (.none rfl) (En.allocZ (cs := arr32 (List.replicate 8 0)) Tryd.zeroValue192 rfl) (fun b6 hb6 => ?_)
        refine JA.branch [2, 5] (by kernel_rfl) rfl ?_
        refine JAll.cons rfl ?_ ?_
        · -- 2
          refine JO.val rfl rfl rfl (.none rfl) (Ev.loadB rfl (by repeat (first | exact List.Mem.head _ | refine List.Mem.tail _ ?_ | refine List.mem_append_right _ ?_ | assumption)) Tryd.underlying192 rfl Tryd.sizeOf192 (by first | rfl | exact dig_size _ | (rw [arr8_size]; first | exact sha_length _ | exact shaO_length _ | assumption))) ?_
          refine JA.branch [5] (by kernel_rfl) rfl ?_
          refine JAll.cons rfl ?_ JAll.nil
          refine JO.sto rfl rfl (.none rfl) (Es.storeA rfl rfl Tryd.sizeOf214 (by repeat (first | exact .here | apply Upd.there | apply Upd.left)) (by rw [arr32_size, sched_length]) (by first | rfl | exact dig_size _ | (rw [arr8_size]; first | exact sha_length _ | exact shaO_length _ | assumption)) (arr32_one _)) ?_
          refine JA.branch [6] (by kernel_rfl) rfl ?_
          refine JAll.cons rfl ?_ JAll.nil
          refine JO.sto rfl rfl (.none rfl) (Es.storeA rfl rfl Tryd.sizeOf192 (by repeat (first | exact .here | apply Upd.there | apply Upd.left)) (by first | rfl | exact dig_size _ | (rw [arr8_size]; first | exact sha_length _ | exact shaO_length _ | assumption)) (by first | rfl | exact dig_size _ | (rw [arr8_size]; first | exact sha_length _ | exact shaO_length _ | assumption)) (arr32_one _)) ?_
          refine JA.done (by kernel_rfl) ?_
          refine JQ.cutN (b5, b6) ?_ ?_
          · exact Keeps.get (by repeat (first | exact Keeps.nil | refine Keeps.cons rfl ?_))
          · first | exact Sub.all | exact Sub.of_cnt (fun a => by (try dsimp only); simp only [cntA]; omega) | repeat (first | exact Sub.nil | refine Sub.cons (by first | exact .here | exact .there .here | exact .there (.there .here) | exact .there (.there (.there .here)) | exact .there (.there (.there (.there .here)))) ?_ | exact Sub.all)
        refine JAll.cons rfl ?_ JAll.nil
        refine JO.sto rfl rfl (.none rfl) (Es.storeA rfl rfl Tryd.sizeOf214 (by repeat (first | exact .here | apply Upd.there | apply Upd.left)) (by rw [arr32_size, sched_length]) (by first | rfl | exact dig_size _ | (rw [arr8_size]; first | exact sha_length _ | exact shaO_length _ | assumption)) (arr32_one _)) ?_
        refine JA.branch [2] (by kernel_rfl) rfl ?_
        refine JAll.cons rfl ?_ JAll.nil
        refine JO.val rfl rfl rfl (.none rfl) (Ev.loadB rfl (by repeat (first | exact List.Mem.head _ | refine List.Mem.tail _ ?_ | refine List.mem_append_right _ ?_ | assumption)) Tryd.underlying192 rfl Tryd.sizeOf192 (by first | rfl | exact dig_size _ | (rw [arr8_size]; first | exact sha_length _ | exact shaO_length _ | assumption))) ?_
        refine JA.branch [6] (by kernel_rfl) rfl ?_
        refine JAll.cons rfl ?_ JAll.nil
        refine JO.sto rfl rfl (.none rfl) (Es.storeA rfl rfl Tryd.sizeOf192 (by repeat (first | exact .here | apply Upd.there | apply Upd.left)) (by first | rfl | exact dig_size _ | (rw [arr8_size]; first | exact sha_length _ | exact shaO_length _ | assumption)) (by first | rfl | exact dig_size _ | (rw [arr8_size]; first | exact sha_length _ | exact shaO_length _ | assumption)) (arr32_one _)) ?_
        refine JA.done (by kernel_rfl) ?_
        refine JQ.cutN (b5, b6) ?_ ?_
        · exact Keeps.get (by repeat (first | exact Keeps.nil | refine Keeps.cons rfl ?_))
        · first | exact Sub.all | exact Sub.of_cnt (fun a => by (try dsimp only); simp only [cntA]; omega) | repeat (first | exact Sub.nil | refine Sub.cons (by first | exact .here | exact .there .here | exact .there (.there .here) | exact .there (.there (.there .here)) | exact .there (.there (.there (.there .here)))) ?_ | exact Sub.all)
      refine JAll.cons rfl ?_ JAll.nil
      refine JO.new rfl rfl rfl (.none rfl) (En.allocZ (cs := arr32 (List.replicate 8 0)) Tryd.zeroValue192 rfl) (fun b6 hb6 => ?_)
      refine JA.branch [2, 3] (by kernel_rfl) rfl ?_
      refine JAll.cons rfl ?_ ?_
      · -- 2
        refine JO.val rfl rfl rfl (.none rfl) (Ev.loadB rfl (by repeat (first | exact List.Mem.head _ | refine List.Mem.tail _ ?_ | refine List.mem_append_right _ ?_ | assumption)) Tryd.underlying192 rfl Tryd.sizeOf192 (by first | rfl | exact dig_size _ | (rw [arr8_size]; first | exact sha_length _ | exact shaO_length _ | assumption))) ?_
        refine JA.branch [3] (by kernel_rfl) rfl ?_
        refine JAll.cons rfl ?_ JAll.nil
        refine JO.new rfl rfl rfl (.none rfl) (En.allocZ (cs := arr32 (List.replicate 64 0)) Tryd.zeroValue214 rfl) (fun b5 hb5 => ?_)
        refine JA.branch [5] (by kernel_rfl) rfl ?_
        refine JAll.cons rfl ?_ JAll.nil
        refine JO.sto rfl rfl (.none rfl) (Es.storeA rfl rfl Tryd.sizeOf214 (by repeat (first | exact .here | apply Upd.there | apply Upd.left)) (by rw [arr32_size, sched_length]) (by first | rfl | exact dig_size _ | (rw [arr8_size]; first | exact sha_length _ | exact shaO_length _ | assumption)) (arr32_one _)) ?_
        refine JA.branch [6] (by kernel_rfl) rfl ?_
        refine JAll.cons rfl ?_ JAll.nil
        refine JO.sto rfl rfl (.none rfl) (Es.storeA rfl rfl Tryd.sizeOf192 (by repeat (first | exact .here | apply Upd.there | apply Upd.left)) (by first | rfl | exact dig_size _ | (rw [arr8_size]; first | exact sha_length _ | exact shaO_length _ | assumption)) (by first | rfl | exact dig_size _ | (rw [arr8_size]; first | exact sha_length _ | exact shaO_length _ | assumption)) (arr32_one _)) ?_
        refine JA.done (by kernel_rfl) ?_
        refine JQ.cutN (b5, b6) ?_ ?_
        · exact Keeps.get (by repeat (first | exact Keeps.nil | refine Keeps.cons rfl ?_))
        · first | exact Sub.all | exact Sub.of_cnt (fun a => by (try dsimp only); simp only [cntA]; omega) | repeat (first | exact Sub.nil | refine Sub.cons (by first | exact .here | exact .there .here | exact .there (.there .here) | exact .there (.there (.there .here)) | exact .there (.there (.there (.there .here)))) ?_ | exact Sub.all)
      refine JAll.cons rfl ?_ JAll.nil
      refine JO.new rfl rfl rfl (.none rfl) (En.allocZ (cs := arr32 (List.replicate 64 0)) Tryd.zeroValue214 rfl) (fun b5 hb5 => ?_)
      refine JA.branch [2, 5] (by kernel_rfl) rfl ?_
      refine JAll.cons rfl ?_ ?_
      · -- 2
        refine JO.val rfl rfl rfl (.none rfl) (Ev.loadB rfl (by repeat (first | exact List.Mem.head _ | refine List.Mem.tail _ ?_ | refine List.mem_append_right _ ?_ | assumption)) Tryd.underlying192 rfl Tryd.sizeOf192 (by first | rfl | exact dig_size _ | (rw [arr8_size]; first | exact sha_length _ | exact shaO_length _ | assumption))) ?_
        refine JA.branch [5] (by kernel_rfl) rfl ?_
        refine JAll.cons rfl ?_ JAll.nil
        refine JO.sto rfl rfl (.none rfl) (Es.storeA rfl rfl Tryd.sizeOf214 (by repeat (first | exact .here | apply Upd.there | apply Upd.left)) (by rw [arr32_size, sched_length]) (by first | rfl | exact dig_size _ | (rw [arr8_size]; first | exact sha_length _ | exact shaO_length _ | assumption)) (arr32_one _)) ?_
        refine JA.branch [6] (by kernel_rfl) rfl ?_
        refine JAll.cons rfl ?_ JAll.nil
        refine JO.sto rfl rfl (.none rfl) (Es.storeA rfl rfl Tryd.sizeOf192 (by repeat (first | exact .here | apply Upd.there | apply Upd.left)) (by first | rfl | exact dig_size _ | (rw [arr8_size]; first | exact sha_length _ | exact shaO_length _ | assumption)) (by first | rfl | exact dig_size _ | (rw [arr8_size]; first | exact sha_length _ | exact shaO_length _ | assumption)) (arr32_one _)) ?_
        refine JA.done (by kernel_rfl) ?_
        refine JQ.cutN (b5, b6) ?_ ?_
        · exact Keeps.get (by repeat (first | exact Keeps.nil | refine Keeps.cons rfl ?_))
        · first | exact Sub.all | exact Sub.of_cnt (fun a => by (try dsimp only); simp only [cntA]; omega) | repeat (first | exact Sub.nil | refine Sub.cons (by first | exact .here | exact .there .here | exact .there (.there .here) | exact .there (.there (.there .here)) | exact .there (.there (.there (.there .here)))) ?_ | exact Sub.all)
      refine JAll.cons rfl ?_ JAll.nil
      refine JO.sto rfl rfl (.none rfl) (Es.storeA rfl rfl Tryd.sizeOf214 (by repeat (first | exact .here | apply Upd.there | apply Upd.left)) (by rw [arr32_size, sched_length]) (by first | rfl | exact dig_size _ | (rw [arr8_size]; first | exact sha_length _ | exact shaO_length _ | assumption)) (arr32_one _)) ?_
      refine JA.branch [2] (by kernel_rfl) rfl ?_
      refine JAll.cons rfl ?_ JAll.nil
      refine JO.val rfl rfl rfl (.none rfl) (Ev.loadB rfl (by repeat (first | exact List.Mem.head _ | refine List.Mem.tail _ ?_ | refine List.mem_append_right _ ?_ | assumption)) Tryd.underlying192 rfl Tryd.sizeOf192 (by first | rfl | exact dig_size _ | (rw [arr8_size]; first | exact sha_length _ | exact shaO_length _ | assumption))) ?_
      refine JA.branch [6] (by kernel_rfl) rfl ?_
      refine JAll.cons rfl ?_ JAll.nil
      refine JO.sto rfl rfl (.none rfl) (Es.storeA rfl rfl Tryd.sizeOf192 (by repeat (first | exact .here | apply Upd.there | apply Upd.left)) (by first | rfl | exact dig_size _ | (rw [arr8_size]; first | exact sha_length _ | exact shaO_length _ | assumption)) (by first | rfl | exact dig_size _ | (rw [arr8_size]; first | exact sha_length _ | exact shaO_length _ | assumption)) (arr32_one _)) ?_
      refine JA.done (by kernel_rfl) ?_
      refine JQ.cutN (b5, b6) ?_ ?_
      · exact Keeps.get (by repeat (first | exact Keeps.nil | refine Keeps.cons rfl ?_))
      · first | exact Sub.all | exact Sub.of_cnt (fun a => by (try dsimp only); simp only [cntA]; omega) | repeat (first | exact Sub.nil | refine Sub.cons (by first | exact .here | exact .there .here | exact .there (.there .here) | exact .there (.there (.there .here)) | exact .there (.there (.there (.there .here)))) ?_ | exact Sub.all)
    refine JAll.cons rfl ?_ ?_
    · -- 2
      refine JO.val rfl rfl rfl (.none rfl) (Ev.loadB rfl (by repeat (first | exact List.Mem.head _ | refine List.Mem.tail _ ?_ | refine List.mem_append_right _ ?_ | assumption)) Tryd.underlying192 rfl Tryd.sizeOf192 (by first | rfl | exact dig_size _ | (rw [arr8_size]; first | exact sha_length _ | exact shaO_length _ | assumption))) ?_
      refine JA.branch [1, 3, 4] (by kernel_rfl) rfl ?_
      refine JAll.cons rfl ?_ ?_
      · -- 1
        refine JO.callV rfl (.none rfl) rfl Tryd.call159 (fun w1 hw1 => spread_any a cap l w1 (hm.old hw1) hl hc) ?_
        refine JA.branch [3, 4] (by kernel_rfl) rfl ?_
        refine JAll.cons rfl ?_ ?_
        · -- 3
          refine JO.new rfl rfl rfl (.none rfl) (En.allocZ (cs := arr32 (List.replicate 64 0)) Tryd.zeroValue214 rfl) (fun b5 hb5 => ?_)
          refine JA.branch [4] (by kernel_rfl) rfl ?_
          refine JAll.cons rfl ?_ JAll.nil
          refine JO.new rfl rfl rfl (.none rfl) (En.allocZ (cs := arr32 (List.replicate 8 0)) Tryd.zeroValue192 rfl) (fun b6 hb6 => ?_)
          refine JA.branch [5] (by kernel_rfl) rfl ?_
          refine JAll.cons rfl ?_ JAll.nil
          refine JO.sto rfl rfl (.none rfl) (Es.storeA rfl rfl Tryd.sizeOf214 (by repeat (first | exact .here | apply Upd.there | apply Upd.left)) (by rw [arr32_size, sched_length]) (by first | rfl | exact dig_size _ | (rw [arr8_size]; first | exact sha_length _ | exact shaO_length _ | assumption)) (arr32_one _)) ?_
          refine JA.branch [6] (by kernel_rfl) rfl ?_
          refine JAll.cons rfl ?_ JAll.nil
          refine JO.sto rfl rfl (.none rfl) (Es.storeA rfl rfl Tryd.sizeOf192 (by repeat (first | exact .here | apply Upd.there | apply Upd.left)) (by first | rfl | exact dig_size _ | (rw [arr8_size]; first | exact sha_length _ | exact shaO_length _ | assumption)) (by first | rfl | exact dig_size _ | (rw [arr8_size]; first | exact sha_length _ | exact shaO_length _ | assumption)) (arr32_one _)) ?_
          refine JA.done (by kernel_rfl) ?_
          refine JQ.cutN (b5, b6) ?_ ?_
          · exact Keeps.get (by repeat (first | exact Keeps.nil | refine Keeps.cons rfl ?_))
          · first | exact Sub.all | exact Sub.of_cnt (fun a => by (try dsimp only); simp only [cntA]; omega) | repeat (first | exact Sub.nil | refine Sub.cons (by first | exact .here | exact .there .here | exact .there (.there .here) | exact .there (.there (.there .here)) | exact .there (.there (.there (.there .here)))) ?_ | exact Sub.all)
        refine JAll.cons rfl ?_ JAll.nil
        refine JO.new rfl rfl rfl (.none rfl) (En.allocZ (cs := arr32 (List.replicate 8 0)) Tryd.zeroValue192 rfl) (fun b6 hb6 => ?_)
        refine JA.branch [3] (by kernel_rfl) rfl ?_
        refine JAll.cons rfl ?_ JAll.nil
        refine JO.new rfl rfl rfl (.none rfl) (En.allocZ (cs := arr32 (List.replicate 64 0)) Tryd.zeroValue214 rfl) (fun b5 hb5 => ?_)
        refine JA.branch [5] (by kernel_rfl) rfl ?_
        refine JAll.cons rfl ?_ JAll.nil
        refine JO.sto rfl rfl (.none rfl) (Es.storeA rfl rfl Tryd.sizeOf214 (by repeat (first | exact .here | apply Upd.there | apply Upd.left)) (by rw [arr32_size, sched_length]) (by first | rfl | exact dig_size _ | (rw [arr8_size]; first | exact sha_length _ | exact shaO_length _ | assumption)) (arr32_one _)) ?_
        refine JA.branch [6] (by kernel_rfl) rfl ?_
        refine JAll.cons rfl ?_ JAll.nil
        refine JO.sto rfl rfl (.none rfl) (Es.storeA rfl rfl Tryd.sizeOf192 (by repeat (first | exact .here | apply Upd.there | apply Upd.left)) (by first | rfl | exact dig_size _ | (rw [arr8_size]; first | exact sha_length _ | exact shaO_length _ | assumption)) (by first | rfl | exact dig_size _ | (rw [arr8_size]; first | exact sha_length _ | exact shaO_length _ | assumption)) (arr32_one _)) ?_
        refine JA.done (by kernel_rfl) ?_
        refine JQ.cutN (b5, b6) ?_ ?_
        · exact Keeps.get (by repeat (first | exact Keeps.nil | refine Keeps.cons rfl ?_))
        · first | exact Sub.all | exact Sub.of_cnt (fun a => by (try dsimp only); simp only [cntA]; omega) | repeat (first | exact Sub.nil | refine Sub.cons (by first | exact .here | exact .there .here | exact .there (.there .here) | exact .there (.there (.there .here)) | exact .there (.there (.there (.there .here)))) ?_ | exact Sub.all)
      refine JAll.cons rfl ?_ ?_
      · -- 3
        refine JO.new rfl rfl rfl (.none rfl) (En.allocZ (cs := arr32 (List.replicate 64 0)) Tryd.zeroValue214 rfl) (fun b5 hb5 => ?_)
        refine JA.branch [1, 4] (by kernel_rfl) rfl ?_
        refine JAll.cons rfl ?_ ?_
        · -- 1
          refine JO.callV rfl (.none rfl) rfl Tryd.call159 (fun w1 hw1 => spread_any a cap l w1 (hm.old hw1) hl hc) ?_
          refine JA.branch [4] (by kernel_rfl) rfl ?_
          refine JAll.cons rfl ?_ JAll.nil
          refine JO.new rfl rfl rfl (.none rfl) (En.allocZ (cs := arr32 (List.replicate 8 0)) Tryd.zeroValue192 rfl) (fun b6 hb6 => ?_)
          refine JA.branch [5] (by kernel_rfl) rfl ?_
          refine JAll.cons rfl ?_ JAll.nil
          refine JO.sto rfl rfl (.none rfl) (Es.storeA rfl rfl Tryd.sizeOf214 (by repeat (first | exact .here | apply Upd.there | apply Upd.left)) (by rw [arr32_size, sched_length]) (by first | rfl | exact dig_size _ | (rw [arr8_size]; first | exact sha_length _ | exact shaO_length _ | assumption)) (arr32_one _)) ?_
          refine JA.branch [6] (by kernel_rfl) rfl ?_
          refine JAll.cons rfl ?_ JAll.nil
          refine JO.sto rfl rfl (.none rfl) (Es.storeA rfl rfl Tryd.sizeOf192 (by repeat (first | exact .here | apply Upd.there | apply Upd.left)) (by first | rfl | exact dig_size _ | (rw [arr8_size]; first | exact sha_length _ | exact shaO_length _ | assumption)) (by first | rfl | exact dig_size _ | (rw [arr8_size]; first | exact sha_length _ | exact shaO_length _ | assumption)) (arr32_one _)) ?_
          refine JA.done (by kernel_rfl) ?_
          refine JQ.cutN (b5, b6) ?_ ?_
          · exact Keeps.get (by repeat (first | exact Keeps.nil | refine Keeps.cons rfl ?_))
          · first | exact Sub.all | exact Sub.of_cnt (fun a => by (try dsimp only); simp only [cntA]; omega) | repeat (first | exact Sub.nil | refine Sub.cons (by first | exact .here | exact .there .here | exact .there (.there .here) | exact .there (.there (.there .here)) | exact .there (.there (.there (.there .here)))) ?_ | exact Sub.all)
        refine JAll.cons rfl ?_ JAll.nil
        refine JO.new rfl rfl rfl (.none rfl) (En.allocZ (cs := arr32 (List.replicate 8 0)) Tryd.zeroValue192 rfl) (fun b6 hb6 => ?_)
        refine JA.branch [1] (by kernel_rfl) rfl ?_
        refine JAll.cons rfl ?_ JAll.nil
        refine JO.callV rfl (.none rfl) rfl Tryd.call159 (fun w1 hw1 => spread_any a cap l w1 (hm.old hw1) hl hc) ?_
        refine JA.branch [5] (by kernel_rfl) rfl ?_
        refine JAll.cons rfl ?_ JAll.nil
        refine JO.sto rfl rfl (.none rfl) (Es.storeA rfl rfl Tryd.sizeOf214 (by repeat (first | exact .here | apply Upd.there | apply Upd.left)) (by rw [arr32_size, sched_length]) (by first | rfl | exact dig_size _ | (rw [arr8_size]; first | exact sha_length _ | exact shaO_length _ | assumption)) (arr32_one _)) ?_
        refine JA.branch [6] (by kernel_rfl) rfl ?_
        refine JAll.cons rfl ?_ JAll.nil
        refine JO.sto rfl rfl (.none rfl) (Es.storeA rfl rfl Tryd.sizeOf192 (by repeat (first | exact .here | apply Upd.there | apply Upd.left)) (by first | rfl | exact dig_size _ | (rw [arr8_size]; first | exact sha_length _ | exact shaO_length _ | assumption)) (by first | rfl | exact dig_size _ | (rw [arr8_size]; first | exact sha_length _ | exact shaO_length _ | assumption)) (arr32_one _)) ?_
        refine JA.done (by kernel_rfl) ?_
        refine JQ.cutN (b5, b6) ?_ ?_
        · exact Keeps.get (by repeat (first | exact Keeps.nil | refine Keeps.cons rfl ?_))
        · first | exact Sub.all | exact Sub.of_cnt (fun a => by (try dsimp only); simp only [cntA]; omega) | repeat (first | exact Sub.nil | refine Sub.cons (by first | exact .here | exact .there .here | exact .there (.there .here) | exact .there (.there (.there .here)) | exact .there (.there (.there (.there .here)))) ?_ | exact Sub.all)
      refine JAll.cons rfl ?_ JAll.nil
      refine JO.new rfl rfl rfl (.none rfl) (En.allocZ (cs := arr32 (List.replicate 8 0)) Tryd.zeroValue192 rfl) (fun b6 hb6 => ?_)
      refine JA.branch [1, 3] (by kernel_rfl) rfl ?_
      refine JAll.cons rfl ?_ ?_
      · -- 1
        refine JO.callV rfl (.none rfl) rfl Tryd.call159 (fun w1 hw1 => spread_any a cap l w1 (hm.old hw1) hl hc) ?_
        refine JA.branch [3] (by kernel_rfl) rfl ?_
        refine JAll.cons rfl ?_ JAll.nil
        refine JO.new rfl rfl rfl (.none rfl) (En.allocZ (cs := arr32 (List.replicate 64 0)) Tryd.zeroValue214 rfl) (fun b5 hb5 => ?_)
        refine JA.branch [5] (by kernel_rfl) rfl ?_
        refine JAll.cons rfl ?_ JAll.nil
        refine JO.sto rfl rfl (.none rfl) (Es.storeA rfl rfl Tryd.sizeOf214 (by repeat (first | exact .here | apply Upd.there | apply Upd.left)) (by rw [arr32_size, sched_length]) (by first | rfl | exact dig_size _ | (rw [arr8_size]; first | exact sha_length _ | exact shaO_length _ | assumption)) (arr32_one _)) ?_
        refine JA.branch [6] (by kernel_rfl) rfl ?_
        refine JAll.cons rfl ?_ JAll.nil
        refine JO.sto rfl rfl (.none rfl) (Es.storeA rfl rfl Tryd.sizeOf192 (by repeat (first | exact .here | apply Upd.there | apply Upd.left)) (by first | rfl | exact dig_size _ | (rw [arr8_size]; first | exact sha_length _ | exact shaO_length _ | assumption)) (by first | rfl | exact dig_size _ | (rw [arr8_size]; first | exact sha_length _ | exact shaO_length _ | assumption)) (arr32_one _)) ?_
        refine JA.done (by kernel_rfl) ?_
        refine JQ.cutN (b5, b6) ?_ ?_
        · exact Keeps.get (by repeat (first | exact Keeps.nil | refine Keeps.cons rfl ?_))
        · first | exact Sub.all | exact Sub.of_cnt (fun a => by (try dsimp only); simp only [cntA]; omega) | repeat (first | exact Sub.nil | refine Sub.cons (by first | exact .here | exact .there .here | exact .there (.there .here) | exact .there (.there (.there .here)) | exact .there (.there (.there (.there .here)))) ?_ | exact Sub.all)
      refine JAll.cons rfl ?_ JAll.nil
      refine JO.new rfl rfl rfl (.none rfl) (En.allocZ (cs := arr32 (List.replicate 64 0)) Tryd.zeroValue214 rfl) (fun b5 hb5 => ?_)
      refine JA.branch [1] (by kernel_rfl) rfl ?_
      refine JAll.cons rfl ?_ JAll.nil
      refine JO.callV rfl (.none rfl) rfl Tryd.call159 (fun w1 hw1 => spread_any a cap l w1 (hm.old hw1) hl hc) ?_
      refine JA.branch [5] (by kernel_rfl) rfl ?_
      refine JAll.cons rfl ?_ JAll.nil
      refine JO.sto rfl rfl (.none rfl) (Es.storeA rfl rfl Tryd.sizeOf214 (by repeat (first | exact .here | apply Upd.there | apply Upd.left)) (by rw [arr32_size, sched_length]) (by first | rfl | exact dig_size _ | (rw [arr8_size]; first | exact sha_length _ | exact shaO_length _ | assumption)) (arr32_one _)) ?_
      refine JA.branch [6] (by kernel_rfl) rfl ?_
      refine JAll.cons rfl ?_ JAll.nil
      refine JO.sto rfl rfl (.none rfl) (Es.storeA rfl rfl Tryd.sizeOf192 (by repeat (first | exact .here | apply Upd.there | apply Upd.left)) (by first | rfl | exact dig_size _ | (rw [arr8_size]; first | exact sha_length _ | exact shaO_length _ | assumption)) (by first | rfl | exact dig_size _ | (rw [arr8_size]; first | exact sha_length _ | exact shaO_length _ | assumption)) (arr32_one _)) ?_
      refine JA.done (by kernel_rfl) ?_
      refine JQ.cutN (b5, b6) ?_ ?_
      · exact Keeps.get (by repeat (first | exact Keeps.nil | refine Keeps.cons rfl ?_))
      · first | exact Sub.all | exact Sub.of_cnt (fun a => by (try dsimp only); simp only [cntA]; omega) | repeat (first | exact Sub.nil | refine Sub.cons (by first | exact .here | exact .there .here | exact .there (.there .here) | exact .there (.there (.there .here)) | exact .there (.there (.there (.there .here)))) ?_ | exact Sub.all)
    refine JAll.cons rfl ?_ ?_
    · -- 3
      refine JO.new rfl rfl rfl (.none rfl) (En.allocZ (cs := arr32 (List.replicate 64 0)) Tryd.zeroValue214 rfl) (fun b5 hb5 => ?_)
      refine JA.branch [1, 2, 4] (by kernel_rfl) rfl ?_
      refine JAll.cons rfl ?_ ?_
      · -- 1
        refine JO.callV rfl (.none rfl) rfl Tryd.call159 (fun w1 hw1 => spread_any a cap l w1 (hm.old hw1) hl hc) ?_
        refine JA.branch [2, 4] (by kernel_rfl) rfl ?_
        refine JAll.cons rfl ?_ ?_
        · -- 2
          refine JO.val rfl rfl rfl (.none rfl) (Ev.loadB rfl (by repeat (first | exact List.Mem.head _ | refine List.Mem.tail _ ?_ | refine List.mem_append_right _ ?_ | assumption)) Tryd.underlying192 rfl Tryd.sizeOf192 (by first | rfl | exact dig_size _ | (rw [arr8_size]; first | exact sha_length _ | exact shaO_length _ | assumption))) ?_
          refine JA.branch [4] (by kernel_rfl) rfl ?_
          refine JAll.cons rfl ?_ JAll.nil
          refine JO.new rfl rfl rfl (.none rfl) (En.allocZ (cs := arr32 (List.replicate 8 0)) Tryd.zeroValue192 rfl) (fun b6 hb6 => ?_)
          refine JA.branch [5] (by kernel_rfl) rfl ?_
          refine JAll.cons rfl ?_ JAll.nil
          refine JO.sto rfl rfl (.none rfl) (Es.storeA rfl rfl Tryd.sizeOf214 (by repeat (first | exact .here | apply Upd.there | apply Upd.left)) (by rw [arr32_size, sched_length]) (by first | rfl | exact dig_size _ | (rw [arr8_size]; first | exact sha_length _ | exact shaO_length _ | assumption)) (arr32_one _)) ?_
          refine JA.branch [6] (by kernel_rfl) rfl ?_
          refine JAll.cons rfl ?_ JAll.nil
          refine JO.sto rfl rfl (.none rfl) (Es.storeA rfl rfl Tryd.sizeOf192 (by repeat (first | exact .here | apply Upd.there | apply Upd.left)) (by first | rfl | exact dig_size _ | (rw [arr8_size]; first | exact sha_length _ | exact shaO_length _ | assumption)) (by first | rfl | exact dig_size _ | (rw [arr8_size]; first | exact sha_length _ | exact shaO_length _ | assumption)) (arr32_one _)) ?_
          refine JA.done (by kernel_rfl) ?_
          refine JQ.cutN (b5, b6) ?_ ?_
          · exact Keeps.get (by repeat (first | exact Keeps.nil | refine Keeps.cons rfl ?_))
          · first | exact Sub.all | exact Sub.of_cnt (fun a => by (try dsimp only); simp only [cntA]; omega) | repeat (first | exact Sub.nil | refine Sub.cons (by first | exact .here | exact .there .here | exact .there (.there .here) | exact .there (.there (.there .here)) | exact .there (.there (.there (.there .here)))) ?_ | exact Sub.all)
        refine JAll.cons rfl ?_ JAll.nil
        refine JO.new rfl rfl rfl (.none rfl) (En.allocZ (cs := arr32 (List.replicate 8 0)) Tryd.zeroValue192 rfl) (fun b6 hb6 => ?_)
        refine JA.branch [2, 5] (by kernel_rfl) rfl ?_
        refine JAll.cons rfl ?_ ?_
        · -- 2
          refine JO.val rfl rfl rfl (.none rfl) (Ev.loadB rfl (by repeat (first | exact List.Mem.head _ | refine List.Mem.tail _ ?_ | refine List.mem_append_right _ ?_ | assumption)) Tryd.underlying192 rfl Tryd.sizeOf192 (by first | rfl | exact dig_size _ | (rw [arr8_size]; first | exact sha_length _ | exact shaO_length _ | assumption))) ?_
          refine JA.branch [5] (by kernel_rfl) rfl ?_
          refine JAll.cons rfl ?_ JAll.nil
          refine JO.sto rfl rfl (.none rfl) (Es.storeA rfl rfl Tryd.sizeOf214 (by repeat (first | exact .here | apply Upd.there | apply Upd.left)) (by rw [arr32_size, sched_length]) (by first | rfl | exact dig_size _ | (rw [arr8_size]; first | exact sha_length _ | exact shaO_length _ | assumption)) (arr32_one _)) ?_
          refine JA.branch [6] (by kernel_rfl) rfl ?_
          refine JAll.cons rfl ?_ JAll.nil
          refine JO.sto rfl rfl (.none rfl) (Es.storeA rfl rfl Tryd.sizeOf192 (by repeat (first | exact .here | apply Upd.there | apply Upd.left)) (by first | rfl | exact dig_size _ | (rw [arr8_size]; first | exact sha_length _ | exact shaO_length _ | assumption)) (by first | rfl | exact dig_size _ | (rw [arr8_size]; first | exact sha_length _ | exact shaO_length _ | assumption)) (arr32_one _)) ?_
          refine JA.done (by kernel_rfl) ?_
          refine JQ.cutN (b5, b6) ?_ ?_
          · exact Keeps.get (by repeat (first | exact Keeps.nil | refine Keeps.cons rfl ?_))
          · first | exact Sub.all | exact Sub.of_cnt (fun a => by (try dsimp only); simp only [cntA]; omega) | repeat (first | exact Sub.nil | refine Sub.cons (by first | exact .here | exact .there .here | exact .there (.there .here) | exact .there (.there (.there .here)) | exact .there (.there (.there (.there .here)))) ?_ | exact Sub.all)
        refine JAll.cons rfl ?_ JAll.nil
        refine JO.sto rfl rfl (.none rfl) (Es.storeA rfl rfl Tryd.sizeOf214 (by repeat (first | exact .here | apply Upd.there | apply Upd.left)) (by rw [arr32_size, sched_length]) (by first | rfl | exact dig_size _ | (rw [arr8_size]; first | exact sha_length _ | exact shaO_length _ | assumption)) (arr32_one _)) ?_
        refine JA.branch [2] (by kernel_rfl) rfl ?_
        refine JAll.cons rfl ?_ JAll.nil
        refine JO.val rfl rfl rfl (.none rfl) (Ev.loadB rfl (by repeat (first | exact List.Mem.head _ | refine List.Mem.tail _ ?_ | refine List.mem_append_right _ ?_ | assumption)) Tryd.underlying192 rfl Tryd.sizeOf192 (by first | rfl | exact dig_size _ | (rw [arr8_size]; first | exact sha_length _ | exact shaO_length _ | assumption))) ?_
        refine JA.branch [6] (by kernel_rfl) rfl ?_
        refine JAll.cons rfl ?_ JAll.nil
        refine JO.sto rfl rfl (.none rfl) (Es.storeA rfl rfl Tryd.sizeOf192 (by repeat (first | exact .here | apply Upd.there | apply Upd.left)) (by first | rfl | exact dig_size _ | (rw [arr8_size]; first | exact sha_length _ | exact shaO_length _ | assumption)) (by first | rfl | exact dig_size _ | (rw [arr8_size]; first | exact sha_length _ | exact shaO_length _ | assumption)) (arr32_one _)) ?_
        refine JA.done (by kernel_rfl) ?_
        refine JQ.cutN (b5, b6) ?_ ?_
        · exact Keeps.get (by repeat (first | exact Keeps.nil | refine Keeps.cons rfl ?_))
        · first | exact Sub.all | exact Sub.of_cnt (fun a => by (try dsimp only); simp only [cntA]; omega) | repeat (first | exact Sub.nil | refine Sub.cons (by first | exact .here | exact .there .here | exact .there (.there .here) | exact .there (.there (.there .here)) | exact .there (.there (.there (.there .here)))) ?_ | exact Sub.all)
      refine JAll.cons rfl ?_ ?_
      · -- 2
        refine JO.val rfl rfl rfl (.none rfl) (Ev.loadB rfl (by repeat (first | exact List.Mem.head _ | refine List.Mem.tail _ ?_ | refine List.mem_append_right _ ?_ | assumption)) Tryd.underlying192 rfl Tryd.sizeOf192 (by first | rfl | exact dig_size _ | (rw [arr8_size]; first | exact sha_length _ | exact shaO_length _ | assumption))) ?_
        refine JA.branch [1, 4] (by kernel_rfl) rfl ?_
        refine JAll.cons rfl ?_ ?_
        · -- 1
          refine JO.callV rfl (.none rfl) rfl Tryd.call159 (fun w1 hw1 => spread_any a cap l w1 (hm.old hw1) hl hc) ?_
          refine JA.branch [4] (by kernel_rfl) rfl ?_
          refine JAll.cons rfl ?_ JAll.nil
          refine JO.new rfl rfl rfl (.none rfl) (En.allocZ (cs := arr32 (List.replicate 8 0)) Tryd.zeroValue192 rfl) (fun b6 hb6 => ?_)
          refine JA.branch [5] (by kernel_rfl) rfl ?_
          refine JAll.cons rfl ?_ JAll.nil
          refine JO.sto rfl rfl (.none rfl) (Es.storeA rfl rfl Tryd.sizeOf214 (by repeat (first | exact .here | apply Upd.there | apply Upd.left)) (by rw [arr32_size, sched_length]) (by first | rfl | exact dig_size _ | (rw [arr8_size]; first | exact sha_length _ | exact shaO_length _ | assumption)) (arr32_one _)) ?_
          refine JA.branch [6] (by kernel_rfl) rfl ?_
          refine JAll.cons rfl ?_ JAll.nil
          refine JO.sto rfl rfl (.none rfl) (Es.storeA rfl rfl Tryd.sizeOf192 (by repeat (first | exact .here | apply Upd.there | apply Upd.left)) (by first | rfl | exact dig_size _ | (rw [arr8_size]; first | exact sha_length _ | exact shaO_length _ | assumption)) (by first | rfl | exact dig_size _ | (rw [arr8_size]; first | exact sha_length _ | exact shaO_length _ | assumption)) (arr32_one _)) ?_
          refine JA.done (by kernel_rfl) ?_
          refine JQ.cutN (b5, b6) ?_ ?_
          · exact Keeps.get (by repeat (first | exact Keeps.nil | refine Keeps.cons rfl ?_))
          · first | exact Sub.all | exact Sub.of_cnt (fun a => by (try dsimp only); simp only [cntA]; omega) | repeat (first | exact Sub.nil | refine Sub.cons (by first | exact .here | exact .there .here | exact .there (.there .here) | exact .there (.there (.there .here)) | exact .there (.there (.there (.there .here)))) ?_ | exact Sub.all)
        refine JAll.cons rfl ?_ JAll.nil
        refine JO.new rfl rfl rfl (.none rfl) (En.allocZ (cs := arr32 (List.replicate 8 0)) Tryd.zeroValue192 rfl) (fun b6 hb6 => ?_)
        refine JA.branch [1] (by kernel_rfl) rfl ?_
        refine JAll.cons rfl ?_ JAll.nil
        refine JO.callV rfl (.none rfl) rfl Tryd.call159 (fun w1 hw1 => spread_any a cap l w1 (hm.old hw1) hl hc) ?_
        refine JA.branch [5] (by kernel_rfl) rfl ?_
        refine JAll.cons rfl ?_ JAll.nil
        refine JO.sto rfl rfl (.none rfl) (Es.storeA rfl rfl Tryd.sizeOf214 (by repeat (first | exact .here | apply Upd.there | apply Upd.left)) (by rw [arr32_size, sched_length]) (by first | rfl | exact dig_size _ | (rw [arr8_size]; first | exact sha_length _ | exact shaO_length _ | assumption)) (arr32_one _)) ?_
        refine JA.branch [6] (by kernel_rfl) rfl ?_
        refine JAll.cons rfl ?_ JAll.nil
        refine JO.sto rfl rfl (.none rfl) (Es.storeA rfl rfl Tryd.sizeOf192 (by repeat (first | exact .here | apply Upd.there | apply Upd.left)) (by first | rfl | exact dig_size _ | (rw [arr8_size]; first | exact sha_length _ | exact shaO_length _ | assumption)) (by first | rfl | exact dig_size _ | (rw [arr8_size]; first | exact sha_length _ | exact shaO_length _ | assumption)) (arr32_one _)) ?_
        refine JA.done (by kernel_rfl) ?_
        refine JQ.cutN (b5, b6) ?_ ?_
        · exact Keeps.get (by repeat (first | exact Keeps.nil | refine Keeps.cons rfl ?_))
        · first | exact Sub.all | exact Sub.of_cnt (fun a => by (try dsimp only); simp only [cntA]; omega) | repeat (first | exact Sub.nil | refine Sub.cons (by first | exact .here | exact .there .here | exact .there (.there .here) | exact .there (.there (.there .here)) | exact .there (.there (.there (.there .here)))) ?_ | exact Sub.all)
      refine JAll.cons rfl ?_ JAll.nil
      refine JO.new rfl rfl rfl (.none rfl) (En.allocZ (cs := arr32 (List.replicate 8 0)) Tryd.zeroValue192 rfl) (fun b6 hb6 => ?_)
      refine JA.branch [1, 2] (by kernel_rfl) rfl ?_
      refine JAll.cons rfl ?_ ?_
      · -- 1
        refine JO.callV rfl (.none rfl) rfl Tryd.call159 (fun w1 hw1 => spread_any a cap l w1 (hm.old hw1) hl hc) ?_
        refine JA.branch [2, 5] (by kernel_rfl) rfl ?_
        refine JAll.cons rfl ?_ ?_
        · -- 2
          refine JO.val rfl rfl rfl (.none rfl) (Ev.loadB rfl (by repeat (first | exact List.Mem.head _ | refine List.Mem.tail _ ?_ | refine List.mem_append_right _ ?_ | assumption)) Tryd.underlying192 rfl Tryd.sizeOf192 (by first | rfl | exact dig_size _ | (rw [arr8_size]; first | exact sha_length _ | exact shaO_length _ | assumption))) ?_
          refine JA.branch [5] (by kernel_rfl) rfl ?_
          refine JAll.cons rfl ?_ JAll.nil
          refine JO.sto rfl rfl (.none rfl) (Es.storeA rfl rfl Tryd.sizeOf214 (by repeat (first | exact .here | apply Upd.there | apply Upd.left)) (by rw [arr32_size, sched_length]) (by first | rfl | exact dig_size _ | (rw [arr8_size]; first | exact sha_length _ | exact shaO_length _ | assumption)) (arr32_one _)) ?_
          refine JA.branch [6] (by kernel_rfl) rfl ?_
          refine JAll.cons rfl ?_ JAll.nil
          refine JO.sto rfl rfl (.none rfl) (Es.storeA rfl rfl Tryd.sizeOf192 (by repeat (first | exact .here | apply Upd.there | apply Upd.left)) (by first | rfl | exact dig_size _ | (rw [arr8_size]; first | exact sha_length _ | exact shaO_length _ | assumption)) (by first | rfl | exact dig_size _ | (rw [arr8_size]; first | exact sha_length _ | exact shaO_length _ | assumption)) (arr32_one _)) ?_
          refine JA.done (by kernel_rfl) ?_
          refine JQ.cutN (b5, b6) ?_ ?_
          · exact Keeps.get (by repeat (first | exact Keeps.nil | refine Keeps.cons rfl ?_))
          · first | exact Sub.all | exact Sub.of_cnt (fun a => by (try dsimp only); simp only [cntA]; omega) | repeat (first | exact Sub.nil | refine Sub.cons (by first | exact .here | exact .there .here | exact .there (.there .here) | exact .there (.there (.there .here)) | exact .there (.there (.there (.there .here)))) ?_ | exact Sub.all)
        refine JAll.cons rfl ?_ JAll.nil
        refine JO.sto rfl rfl (.none rfl) (Es.storeA rfl rfl Tryd.sizeOf214 (by repeat (first | exact .here | apply Upd.there | apply Upd.left)) (by rw [arr32_size, sched_length]) (by first | rfl | exact dig_size _ | (rw [arr8_size]; first | exact sha_length _ | exact shaO_length _ | assumption)) (arr32_one _)) ?_
        refine JA.branch [2] (by kernel_rfl) rfl ?_
        refine JAll.cons rfl ?_ JAll.nil
        refine JO.val rfl rfl rfl (.none rfl) (Ev.loadB rfl (by repeat (first | exact List.Mem.head _ | refine List.Mem.tail _ ?_ | refine List.mem_append_right _ ?_ | assumption)) Tryd.underlying192 rfl Tryd.sizeOf192 (by first | rfl | exact dig_size _ | (rw [arr8_size]; first | exact sha_length _ | exact shaO_length _ | assumption))) ?_
        refine JA.branch [6] (by kernel_rfl) rfl ?_
        refine JAll.cons rfl ?_ JAll.nil
        refine JO.sto rfl rfl (.none rfl) (Es.storeA rfl rfl Tryd.sizeOf192 (by repeat (first | exact .here | apply Upd.there | apply Upd.left)) (by first | rfl | exact dig_size _ | (rw [arr8_size]; first | exact sha_length _ | exact shaO_length _ | assumption)) (by first | rfl | exact dig_size _ | (rw [arr8_size]; first | exact sha_length _ | exact shaO_length _ | assumption)) (arr32_one _)) ?_
        refine JA.done (by kernel_rfl) ?_
        refine JQ.cutN (b5, b6) ?_ ?_
        · exact Keeps.get (by repeat (first | exact Keeps.nil | refine Keeps.cons rfl ?_))
        · first | exact Sub.all | exact Sub.of_cnt (fun a => by (try dsimp only); simp only [cntA]; omega) | repeat (first | exact Sub.nil | refine Sub.cons (by first | exact .here | exact .there .here | exact .there (.there .here) | exact .there (.there (.there .here)) | exact .there (.there (.there (.there .here)))) ?_ | exact Sub.all)
      refine JAll.cons rfl ?_ JAll.nil
      refine JO.val rfl rfl rfl (.none rfl) (Ev.loadB rfl (by repeat (first | exact List.Mem.head _ | refine List.Mem.tail _ ?_ | refine List.mem_append_right _ ?_ | assumption)) Tryd.underlying192 rfl Tryd.sizeOf192 (by first | rfl | exact dig_size _ | (rw [arr8_size]; first | exact sha_length _ | exact shaO_length _ | assumption))) ?_
      refine JA.branch [1] (by kernel_rfl) rfl ?_
      refine JAll.cons rfl ?_ JAll.nil
      refine JO.callV rfl (.none rfl) rfl Tryd.call159 (fun w1 hw1 => spread_any a cap l w1 (hm.old hw1) hl hc) ?_
      refine JA.branch [5] (by kernel_rfl) rfl ?_
      refine JAll.cons rfl ?_ JAll.nil
      refine JO.sto rfl rfl (.none rfl) (Es.storeA rfl rfl Tryd.sizeOf214 (by repeat (first | exact .here | apply Upd.there | apply Upd.left)) (by rw [arr32_size, sched_length]) (by first | rfl | exact dig_size _ | (rw [arr8_size]; first | exact sha_length _ | exact shaO_length _ | assumption)) (arr32_one _)) ?_
      refine JA.branch [6] (by kernel_rfl) rfl ?_
      refine JAll.cons rfl ?_ JAll.nil
      refine JO.sto rfl rfl (.none rfl) (Es.storeA rfl rfl Tryd.sizeOf192 (by repeat (first | exact .here | apply Upd.there | apply Upd.left)) (by first | rfl | exact dig_size _ | (rw [arr8_size]; first | exact sha_length _ | exact shaO_length _ | assumption)) (by first | rfl | exact dig_size _ | (rw [arr8_size]; first | exact sha_length _ | exact shaO_length _ | assumption)) (arr32_one _)) ?_
      refine JA.done (by kernel_rfl) ?_
      refine JQ.cutN (b5, b6) ?_ ?_
      · exact Keeps.get (by repeat (first | exact Keeps.nil | refine Keeps.cons rfl ?_))
      · first | exact Sub.all | exact Sub.of_cnt (fun a => by (try dsimp only); simp only [cntA]; omega) | repeat (first | exact Sub.nil | refine Sub.cons (by first | exact .here | exact .there .here | exact .there (.there .here) | exact .there (.there (.there .here)) | exact .there (.there (.there (.there .here)))) ?_ | exact Sub.all)
    refine JAll.cons rfl ?_ JAll.nil
    refine JO.new rfl rfl rfl (.none rfl) (En.allocZ (cs := arr32 (List.replicate 8 0)) Tryd.zeroValue192 rfl) (fun b6 hb6 => ?_)
    refine JA.branch [1, 2, 3] (by kernel_rfl) rfl ?_
    refine JAll.cons rfl ?_ ?_
    · -- 1
      refine JO.callV rfl (.none rfl) rfl Tryd.call159 (fun w1 hw1 => spread_any a cap l w1 (hm.old hw1) hl hc) ?_
      refine JA.branch [2, 3] (by kernel_rfl) rfl ?_
      refine JAll.cons rfl ?_ ?_
      · -- 2
        refine JO.val rfl rfl rfl (.none rfl) (Ev.loadB rfl (by repeat (first | exact List.Mem.head _ | refine List.Mem.tail _ ?_ | refine List.mem_append_right _ ?_ | assumption)) Tryd.underlying192 rfl Tryd.sizeOf192 (by first | rfl | exact dig_size _ | (rw [arr8_size]; first | exact sha_length _ | exact shaO_length _ | assumption))) ?_
        refine JA.branch [3] (by kernel_rfl) rfl ?_
        refine JAll.cons rfl ?_ JAll.nil
        refine JO.new rfl rfl rfl (.none rfl) (En.allocZ (cs := arr32 (List.replicate 64 0)) Tryd.zeroValue214 rfl) (fun b5 hb5 => ?_)
        refine JA.branch [5] (by kernel_rfl) rfl ?_
        refine JAll.cons rfl ?_ JAll.nil
        refine JO.sto rfl rfl (.none rfl) (Es.storeA rfl rfl Tryd.sizeOf214 (by repeat (first | exact .here | apply Upd.there | apply Upd.left)) (by rw [arr32_size, sched_length]) (by first | rfl | exact dig_size _ | (rw [arr8_size]; first | exact sha_length _ | exact shaO_length _ | assumption)) (arr32_one _)) ?_
        refine JA.branch [6] (by kernel_rfl) rfl ?_
        refine JAll.cons rfl ?_ JAll.nil
        refine JO.sto rfl rfl (.none rfl) (Es.storeA rfl rfl Tryd.sizeOf192 (by repeat (first | exact .here | apply Upd.there | apply Upd.left)) (by first | rfl | exact dig_size _ | (rw [arr8_size]; first | exact sha_length _ | exact shaO_length _ | assumption)) (by first | rfl | exact dig_size _ | (rw [arr8_size]; first | exact sha_length _ | exact shaO_length _ | assumption)) (arr32_one _)) ?_
        refine JA.done (by kernel_rfl) ?_
        refine JQ.cutN (b5, b6) ?_ ?_
        · exact Keeps.get (by repeat (first | exact Keeps.nil | refine Keeps.cons rfl ?_))
        · first | exact Sub.all | exact Sub.of_cnt (fun a => by (try dsimp only); simp only [cntA]; omega) | repeat (first | exact Sub.nil | refine Sub.cons (by first | exact .here | exact .there .here | exact .there (.there .here) | exact .there (.there (.there .here)) | exact .there (.there (.there (.there .here)))) ?_ | exact Sub.all)
      refine JAll.cons rfl ?_ JAll.nil
      refine JO.new rfl rfl rfl (.none rfl) (En.allocZ (cs := arr32 (List.replicate 64 0)) Tryd.zeroValue214 rfl) (fun b5 hb5 => ?_)
      refine JA.branch [2, 5] (by kernel_rfl) rfl ?_
      refine JAll.cons rfl ?_ ?_
      · -- 2
        refine JO.val rfl rfl rfl (.none rfl) (Ev.loadB rfl (by repeat (first | exact List.Mem.head _ | refine List.Mem.tail _ ?_ | refine List.mem_append_right _ ?_ | assumption)) Tryd.underlying192 rfl Tryd.sizeOf192 (by first | rfl | exact dig_size _ | (rw [arr8_size]; first | exact sha_length _ | exact shaO_length _ | assumption))) ?_
        refine JA.branch [5] (by kernel_rfl) rfl ?_
        refine JAll.cons rfl ?_ JAll.nil
        refine JO.sto rfl rfl (.none rfl) (Es.storeA rfl rfl Tryd.sizeOf214 (by repeat (first | exact .here | apply Upd.there | apply Upd.left)) (by rw [arr32_size, sched_length]) (by first | rfl | exact dig_size _ | (rw [arr8_size]; first | exact sha_length _ | exact shaO_length _ | assumption)) (arr32_one _)) ?_
        refine JA.branch [6] (by kernel_rfl) rfl ?_
        refine JAll.cons rfl ?_ JAll.nil
        refine JO.sto rfl rfl (.none rfl) (Es.storeA rfl rfl Tryd.sizeOf192 (by repeat (first | exact .here | apply Upd.there | apply Upd.left)) (by first | rfl | exact dig_size _ | (rw [arr8_size]; first | exact sha_length _ | exact shaO_length _ | assumption)) (by first | rfl | exact dig_size _ | (rw [arr8_size]; first | exact sha_length _ | exact shaO_length _ | assumption)) (arr32_one _)) ?_
        refine JA.done (by kernel_rfl) ?_
        refine JQ.cutN (b5, b6) ?_ ?_
        · exact Keeps.get (by repeat (first | exact Keeps.nil | refine Keeps.cons rfl ?_))
        · first | exact Sub.all | exact Sub.of_cnt (fun a => by (try dsimp only); simp only [cntA]; omega) | repeat (first | exact Sub.nil | refine Sub.cons (by first | exact .here | exact .there .here | exact .there (.there .here) | exact .there (.there (.there .here)) | exact .there (.there (.there (.there .here)))) ?_ | exact Sub.all)
      refine JAll.cons rfl ?_ JAll.nil
      refine JO.sto rfl rfl (.none rfl) (Es.storeA rfl rfl Tryd.sizeOf214 (by repeat (first | exact .here | apply Upd.there | apply Upd.left)) (by rw [arr32_size, sched_length]) (by first | rfl | exact dig_size _ | (rw [arr8_size]; first | exact sha_length _ | exact shaO_length _ | assumption)) (arr32_one _)) ?_
      refine JA.branch [2] (by kernel_rfl) rfl ?_
      refine JAll.cons rfl ?_ JAll.nil
      refine JO.val rfl rfl rfl (.none rfl) (Ev.loadB rfl (by repeat (first | exact List.Mem.head _ | refine List.Mem.tail _ ?_ | refine List.mem_append_right _ ?_ | assumption)) Tryd.underlying192 rfl Tryd.sizeOf192 (by first | rfl | exact dig_size _ | (rw [arr8_size]; first | exact sha_length _ | exact shaO_length _ | assumption))) ?_
      refine JA.branch [6] (by kernel_rfl) rfl ?_
      refine JAll.cons rfl ?_ JAll.nil
      refine JO.sto rfl rfl (.none rfl) (Es.storeA rfl rfl Tryd.sizeOf192 (by repeat (first | exact .here | apply Upd.there | apply Upd.left)) (by first | rfl | exact dig_size _ | (rw [arr8_size]; first | exact sha_length _ | exact shaO_length _ | assumption)) (by first | rfl | exact dig_size _ | (rw [arr8_size]; first | exact sha_length _ | exact shaO_length _ | assumption)) (arr32_one _)) ?_
      refine JA.done (by kernel_rfl) ?_
      refine JQ.cutN (b5, b6) ?_ ?_
      · exact Keeps.get (by repeat (first | exact Keeps.nil | refine Keeps.cons rfl ?_))
      · first | exact Sub.all | exact Sub.of_cnt (fun a => by (try dsimp only); simp only [cntA]; omega) | repeat (first | exact Sub.nil | refine Sub.cons (by first | exact .here | exact .there .here | exact .there (.there .here) | exact .there (.there (.there .here)) | exact .there (.there (.there (.there .here)))) ?_ | exact Sub.all)
    refine JAll.cons rfl ?_ ?_
    · -- 2
      refine JO.val rfl rfl rfl (.none rfl) (Ev.loadB rfl (by repeat (first | exact List.Mem.head _ | refine List.Mem.tail _ ?_ | refine List.mem_append_right _ ?_ | assumption)) Tryd.underlying192 rfl Tryd.sizeOf192 (by first | rfl | exact dig_size _ | (rw [arr8_size]; first | exact sha_length _ | exact shaO_length _ | assumption))) ?_
      refine JA.branch [1, 3] (by kernel_rfl) rfl ?_
      refine JAll.cons rfl ?_ ?_
      · -- 1
        refine JO.callV rfl (.none rfl) rfl Tryd.call159 (fun w1 hw1 => spread_any a cap l w1 (hm.old hw1) hl hc) ?_
        refine JA.branch [3] (by kernel_rfl) rfl ?_
        refine JAll.cons rfl ?_ JAll.nil
        refine JO.new rfl rfl rfl (.none rfl) (En.allocZ (cs := arr32 (List.replicate 64 0)) Tryd.zeroValue214 rfl) (fun b5 hb5 => ?_)
        refine JA.branch [5] (by kernel_rfl) rfl ?_
        refine JAll.cons rfl ?_ JAll.nil
        refine JO.sto rfl rfl (.none rfl) (Es.storeA rfl rfl Tryd.sizeOf214 (by repeat (first | exact .here | apply Upd.there | apply Upd.left)) (by rw [arr32_size, sched_length]) (by first | rfl | exact dig_size _ | (rw [arr8_size]; first | exact sha_length _ | exact shaO_length _ | assumption)) (arr32_one _)) ?_
        refine JA.branch [6] (by kernel_rfl) rfl ?_
        refine JAll.cons rfl ?_ JAll.nil
        refine JO.sto rfl rfl (.none rfl) (Es.storeA rfl rfl Tryd.sizeOf192 (by repeat (first | exact .here | apply Upd.there | apply Upd.left)) (by first | rfl | exact dig_size _ | (rw [arr8_size]; first | exact sha_length _ | exact shaO_length _ | assumption)) (by first | rfl | exact dig_size _ | (rw [arr8_size]; first | exact sha_length _ | exact shaO_length _ | assumption)) (arr32_one _)) ?_
        refine JA.done (by kernel_rfl) ?_
        refine JQ.cutN (b5, b6) ?_ ?_
        · exact Keeps.get (by repeat (first | exact Keeps.nil | refine Keeps.cons rfl ?_))
        · first | exact Sub.all | exact Sub.of_cnt (fun a => by (try dsimp only); simp only [cntA]; omega) | repeat (first | exact Sub.nil | refine Sub.cons (by first | exact .here | exact .there .here | exact .there (.there .here) | exact .there (.there (.there .here)) | exact .there (.there (.there (.there .here)))) ?_ | exact Sub.all)
      refine JAll.cons rfl ?_ JAll.nil
      refine JO.new rfl rfl rfl (.none rfl) (En.allocZ (cs := arr32 (List.replicate 64 0)) Tryd.zeroValue214 rfl) (fun b5 hb5 => ?_)
      refine JA.branch [1] (by kernel_rfl) rfl ?_
      refine JAll.cons rfl ?_ JAll.nil
      refine JO.callV rfl (.none rfl) rfl Tryd.call159 (fun w1 hw1 => spread_any a cap l w1 (hm.old hw1) hl hc) ?_
      refine JA.branch [5] (by kernel_rfl) rfl ?_
      refine JAll.cons rfl ?_ JAll.nil
      refine JO.sto rfl rfl (.none rfl) (Es.storeA rfl rfl Tryd.sizeOf214 (by repeat (first | exact .here | apply Upd.there | apply Upd.left)) (by rw [arr32_size, sched_length]) (by first | rfl | exact dig_size _ | (rw [arr8_size]; first | exact sha_length _ | exact shaO_length _ | assumption)) (arr32_one _)) ?_
      refine JA.branch [6] (by kernel_rfl) rfl ?_
      refine JAll.cons rfl ?_ JAll.nil
      refine JO.sto rfl rfl (.none rfl) (Es.storeA rfl rfl Tryd.sizeOf192 (by repeat (first | exact .here | apply Upd.there | apply Upd.left)) (by first | rfl | exact dig_size _ | (rw [arr8_size]; first | exact sha_length _ | exact shaO_length _ | assumption)) (by first | rfl | exact dig_size _ | (rw [arr8_size]; first | exact sha_length _ | exact shaO_length _ | assumption)) (arr32_one _)) ?_
      refine JA.done (by kernel_rfl) ?_
      refine JQ.cutN (b5, b6) ?_ ?_
      · exact Keeps.get (by repeat (first | exact Keeps.nil | refine Keeps.cons rfl ?_))
      · first | exact Sub.all | exact Sub.of_cnt (fun a => by (try dsimp only); simp only [cntA]; omega) | repeat (first | exact Sub.nil | refine Sub.cons (by first | exact .here | exact .there .here | exact .there (.there .here) | exact .there (.there (.there .here)) | exact .there (.there (.there (.there .here)))) ?_ | exact Sub.all)
    refine JAll.cons rfl ?_ JAll.nil
    refine JO.new rfl rfl rfl (.none rfl) (En.allocZ (cs := arr32 (List.replicate 64 0)) Tryd.zeroValue214 rfl) (fun b5 hb5 => ?_)
    refine JA.branch [1, 2] (by kernel_rfl) rfl ?_
    refine JAll.cons rfl ?_ ?_
    · -- 1
      refine JO.callV rfl (.none rfl) rfl Tryd.call159 (fun w1 hw1 => spread_any a cap l w1 (hm.old hw1) hl hc) ?_
      refine JA.branch [2, 5] (by kernel_rfl) rfl ?_
      refine JAll.cons rfl ?_ ?_
      · -- 2
        refine JO.val rfl rfl rfl (.none rfl) (Ev.loadB rfl (by repeat (first | exact List.Mem.head _ | refine List.Mem.tail _ ?_ | refine List.mem_append_right _ ?_ | assumption)) Tryd.underlying192 rfl Tryd.sizeOf192 (by first | rfl | exact dig_size _ | (rw [arr8_size]; first | exact sha_length _ | exact shaO_length _ | assumption))) ?_
        refine JA.branch [5] (by kernel_rfl) rfl ?_
        refine JAll.cons rfl ?_ JAll.nil
        refine JO.sto rfl rfl (.none rfl) (Es.storeA rfl rfl Tryd.sizeOf214 (by repeat (first | exact .here | apply Upd.there | apply Upd.left)) (by rw [arr32_size, sched_length]) (by first | rfl | exact dig_size _ | (rw [arr8_size]; first | exact sha_length _ | exact shaO_length _ | assumption)) (arr32_one _)) ?_
        refine JA.branch [6] (by kernel_rfl) rfl ?_
        refine JAll.cons rfl ?_ JAll.nil
        refine JO.sto rfl rfl (.none rfl) (Es.storeA rfl rfl Tryd.sizeOf192 (by repeat (first | exact .here | apply Upd.there | apply Upd.left)) (by first | rfl | exact dig_size _ | (rw [arr8_size]; first | exact sha_length _ | exact shaO_length _ | assumption)) (by first | rfl | exact dig_size _ | (rw [arr8_size]; first | exact sha_length _ | exact shaO_length _ | assumption)) (arr32_one _)) ?_
        refine JA.done (by kernel_rfl) ?_
        refine JQ.cutN (b5, b6) ?_ ?_
        · exact Keeps.get (by repeat (first | exact Keeps.nil | refine Keeps.cons rfl ?_))
        · first | exact Sub.all | exact Sub.of_cnt (fun a => by (try dsimp only); simp only [cntA]; omega) | repeat (first | exact Sub.nil | refine Sub.cons (by first | exact .here | exact .there .here | exact .there (.there .here) | exact .there (.there (.there .here)) | exact .there (.there (.there (.there .here)))) ?_ | exact Sub.all)
      refine JAll.cons rfl ?_ JAll.nil
      refine JO.sto rfl rfl (.none rfl) (Es.storeA rfl rfl Tryd.sizeOf214 (by repeat (first | exact .here | apply Upd.there | apply Upd.left)) (by rw [arr32_size, sched_length]) (by first | rfl | exact dig_size _ | (rw [arr8_size]; first | exact sha_length _ | exact shaO_length _ | assumption)) (arr32_one _)) ?_
      refine JA.branch [2] (by kernel_rfl) rfl ?_
      refine JAll.cons rfl ?_ JAll.nil
      refine JO.val rfl rfl rfl (.none rfl) (Ev.loadB rfl (by repeat (first | exact List.Mem.head _ | refine List.Mem.tail _ ?_ | refine List.mem_append_right _ ?_ | assumption)) Tryd.underlying192 rfl Tryd.sizeOf192 (by first | rfl | exact dig_size _ | (rw [arr8_size]; first | exact sha_length _ | exact shaO_length _ | assumption))) ?_
      refine JA.branch [6] (by kernel_rfl) rfl ?_
      refine JAll.cons rfl ?_ JAll.nil
      refine JO.sto rfl rfl (.none rfl) (Es.storeA rfl rfl Tryd.sizeOf192 (by repeat (first | exact .here | apply Upd.there | apply Upd.left)) (by first | rfl | exact dig_size _ | (rw [arr8_size]; first | exact sha_length _ | exact shaO_length _ | assumption)) (by first | rfl | exact dig_size _ | (rw [arr8_size]; first | exact sha_length _ | exact shaO_length _ | assumption)) (arr32_one _)) ?_
      refine JA.done (by kernel_rfl) ?_
      refine JQ.cutN (b5, b6) ?_ ?_
      · exact Keeps.get (by repeat (first | exact Keeps.nil | refine Keeps.cons rfl ?_))
      · first | exact Sub.all | exact Sub.of_cnt (fun a => by (try dsimp only); simp only [cntA]; omega) | repeat (first | exact Sub.nil | refine Sub.cons (by first | exact .here | exact .there .here | exact .there (.there .here) | exact .there (.there (.there .here)) | exact .there (.there (.there (.there .here)))) ?_ | exact Sub.all)
    refine JAll.cons rfl ?_ JAll.nil
    refine JO.val rfl rfl rfl (.none rfl) (Ev.loadB rfl (by repeat (first | exact List.Mem.head _ | refine List.Mem.tail _ ?_ | refine List.mem_append_right _ ?_ | assumption)) Tryd.underlying192 rfl Tryd.sizeOf192 (by first | rfl | exact dig_size _ | (rw [arr8_size]; first | exact sha_length _ | exact shaO_length _ | assumption))) ?_
    refine JA.branch [1] (by kernel_rfl) rfl ?_
    refine JAll.cons rfl ?_ JAll.nil
    refine JO.callV rfl (.none rfl) rfl Tryd.call159 (fun w1 hw1 => spread_any a cap l w1 (hm.old hw1) hl hc) ?_
    refine JA.branch [5] (by kernel_rfl) rfl ?_
    refine JAll.cons rfl ?_ JAll.nil
    refine JO.sto rfl rfl (.none rfl) (Es.storeA rfl rfl Tryd.sizeOf214 (by repeat (first | exact .here | apply Upd.there | apply Upd.left)) (by rw [arr32_size, sched_length]) (by first | rfl | exact dig_size _ | (rw [arr8_size]; first | exact sha_length _ | exact shaO_length _ | assumption)) (arr32_one _)) ?_
    refine JA.branch [6] (by kernel_rfl) rfl ?_
    refine JAll.cons rfl ?_ JAll.nil
    refine JO.sto rfl rfl (.none rfl) (Es.storeA rfl rfl Tryd.sizeOf192 (by repeat (first | exact .here | apply Upd.there | apply Upd.left)) (by first | rfl | exact dig_size _ | (rw [arr8_size]; first | exact sha_length _ | exact shaO_length _ | assumption)) (by first | rfl | exact dig_size _ | (rw [arr8_size]; first | exact sha_length _ | exact shaO_length _ | assumption)) (arr32_one _)) ?_
    refine JA.done (by kernel_rfl) ?_
    refine JQ.cutN (b5, b6) ?_ ?_
    · exact Keeps.get (by repeat (first | exact Keeps.nil | refine Keeps.cons rfl ?_))
    · first | exact Sub.all | exact Sub.of_cnt (fun a => by (try dsimp only); simp only [cntA]; omega) | repeat (first | exact Sub.nil | refine Sub.cons (by first | exact .here | exact .there .here | exact .there (.there .here) | exact .there (.there (.there .here)) | exact .there (.there (.there (.there .here)))) ?_ | exact Sub.all)
  rintro ⟨b5, b6⟩
  refine JQ.thenN ?_
  refine JC.seq ?_
  refine JC.seq ?_
  -- region 2
  refine JC.region ?_
  refine JL.val rfl rfl rfl (.none rfl) (Ev.move rfl) ?_
  refine JL.nil ?_
  refine JQ.thenN ?_
  refine JC.block ?_
  refine JC.loop (X := Nat)
    (fun k => [(2, .pointer (some ⟨b2, 0, none⟩)), (4, .pointer (some ⟨b4, 0, none⟩)), (5, .pointer (some ⟨b5, 0, none⟩)), (6, .pointer (some ⟨b6, 0, none⟩)), (16, .int .i64 (k : Int))])
    (fun k => [(b6, .cells (arr32 (rounds s l k).l) 192 (0, 0)), (b5, .cells (arr32 (sched l 64)) 214 (0, 0)), (b4, .cells (arr32 (List.replicate 8 0)) 192 (0, 0)), (b2, .cells (arr32 s.l) 192 (0, 0))])
    (fun k => k ≤ 64)
    (fun k => 64 - k) 0 ?_ ?_ ?_ ?_
  · exact Keeps.get (by repeat (first | exact Keeps.nil | refine Keeps.cons rfl ?_))
  · first | exact Sub.all | exact Sub.of_cnt (fun a => by (try dsimp only); simp only [cntA]; omega) | repeat (first | exact Sub.nil | refine Sub.cons (by first | exact .here | exact .there .here | exact .there (.there .here) | exact .there (.there (.there .here)) | exact .there (.there (.there (.there .here)))) ?_ | exact Sub.all)
  · omega
  rintro k hk64
  refine JC.seq ?_
  -- region 3
  refine JC.region ?_
  refine JL.val rfl rfl rfl (.none rfl) (Ev.bin rfl rfl lss_int) ?_
  refine JL.nil ?_
  refine JQ.thenN ?_
  refine JC.seq ?_
  refine JC.cond rfl (fun hc1 => ?_) (fun hc1 => ?_)
  · -- t17 True
    replace hc1 := of_decide_eq_true hc1
    refine JC.skip ?_
    refine JQ.thenN ?_
    refine JC.seq ?_
    refine JC.block ?_
    refine JC.seq ?_
    -- region 4
    refine JC.region ?_
    refine JL.val rfl rfl rfl (.none rfl) (Ev.move rfl) ?_
    refine JL.val rfl rfl rfl (.none rfl) (Ev.assign rfl) ?_
    refine JL.nil ?_
    refine JQ.thenN ?_
    refine JC.seq ?_
    -- region 5
    refine JC.regionQ (by kernel_rfl) (by kernel_rfl) ?_
    refine JW.val rfl rfl (.none rfl) (Ev.idxB1 (k := 0) rfl rfl Tryd.underlying192 Tryd.sizeOf102 rfl (by omega)) ?_
    refine JW.val rfl rfl (.none rfl) (Ev.load1 rfl Tryd.underlying102 rfl (Rd.own (by repeat (first | exact List.Mem.head _ | refine List.Mem.tail _ ?_ | refine List.mem_append_right _ ?_ | assumption)) rfl)) ?_
    refine JW.val rfl rfl (.none rfl) (Ev.idxB1 (k := 4) rfl rfl Tryd.underlying192 Tryd.sizeOf102 rfl (by omega)) ?_
    refine JW.val rfl rfl (.none rfl) (Ev.load1 rfl Tryd.underlying102 rfl (Rd.own (by repeat (first | exact List.Mem.head _ | refine List.Mem.tail _ ?_ | refine List.mem_append_right _ ?_ | assumption)) rfl)) ?_
    refine JW.val rfl rfl (.none rfl) (Ev.assign rfl) ?_
    refine JW.val rfl rfl (.none rfl) (Ev.assign rfl) ?_
    refine JW.nilQ ?_
    refine JQ.thenN ?_
    refine JC.seq ?_
    -- region 6
    refine JC.regionQ (by kernel_rfl) (by kernel_rfl) ?_
    refine JW.val rfl rfl (.none rfl) (Ev.idxB1 (k := 7) rfl rfl Tryd.underlying192 Tryd.sizeOf102 rfl (by omega)) ?_
    refine JW.val rfl rfl (.none rfl) (Ev.load1 rfl Tryd.underlying102 rfl (Rd.own (by repeat (first | exact List.Mem.head _ | refine List.Mem.tail _ ?_ | refine List.mem_append_right _ ?_ | assumption)) rfl)) ?_
    refine JW.val rfl rfl (.none rfl) (Ev.move rfl) ?_
    refine JW.call rfl (.none rfl) rfl Tryd.call160 (fun w1 hw1 => right_any _ 6 (by decide) (by decide) w1) ?_
    refine JW.val rfl rfl (.none rfl) (Ev.move rfl) ?_
    refine JW.call rfl (.none rfl) rfl Tryd.call160 (fun w1 hw1 => right_any _ 11 (by decide) (by decide) w1) ?_
    refine JW.val rfl rfl (.none rfl) (Ev.bin rfl rfl xor_u32) ?_
    refine JW.val rfl rfl (.none rfl) (Ev.move rfl) ?_
    refine JW.call rfl (.none rfl) rfl Tryd.call160 (fun w1 hw1 => right_any _ 25 (by decide) (by decide) w1) ?_
    refine JW.val rfl rfl (.none rfl) (Ev.bin rfl rfl xor_u32) ?_
    refine JW.val rfl rfl (.none rfl) (Ev.bin rfl rfl add_u32) ?_
    refine JW.val rfl rfl (.none rfl) (Ev.idxB1 (k := 6) rfl rfl Tryd.underlying192 Tryd.sizeOf102 rfl (by omega)) ?_
    refine JW.val rfl rfl (.none rfl) (Ev.load1 rfl Tryd.underlying102 rfl (Rd.own (by repeat (first | exact List.Mem.head _ | refine List.Mem.tail _ ?_ | refine List.mem_append_right _ ?_ | assumption)) rfl)) ?_
    refine JW.val rfl rfl (.none rfl) (Ev.move rfl) ?_
    refine JW.val rfl rfl (.none rfl) (Ev.idxB1 (k := 5) rfl rfl Tryd.underlying192 Tryd.sizeOf102 rfl (by omega)) ?_
    refine JW.val rfl rfl (.none rfl) (Ev.load1 rfl Tryd.underlying102 rfl (Rd.own (by repeat (first | exact List.Mem.head _ | refine List.Mem.tail _ ?_ | refine List.mem_append_right _ ?_ | assumption)) rfl)) ?_
    refine JW.val rfl rfl (.none rfl) (Ev.idxB1 (k := 6) rfl rfl Tryd.underlying192 Tryd.sizeOf102 rfl (by omega)) ?_
    refine JW.val rfl rfl (.none rfl) (Ev.load1 rfl Tryd.underlying102 rfl (Rd.own (by repeat (first | exact List.Mem.head _ | refine List.Mem.tail _ ?_ | refine List.mem_append_right _ ?_ | assumption)) rfl)) ?_
    refine JW.val rfl rfl (.none rfl) (Ev.bin rfl rfl xor_u32) ?_
    refine JW.val rfl rfl (.none rfl) (Ev.bin rfl rfl and_u32) ?_
    refine JW.val rfl rfl (.none rfl) (Ev.bin rfl rfl xor_u32) ?_
    refine JW.val rfl rfl (.none rfl) (Ev.bin rfl rfl add_u32) ?_
    refine JW.val rfl rfl (.none rfl) (Ev.move rfl) ?_
    refine JW.val rfl rfl (.none rfl) (Ev.idxB1 rfl rfl Tryd.underlying214 Tryd.sizeOf102 (k := k) rfl (by omega)) ?_
    refine JW.val rfl rfl (.none rfl) (Ev.load1 rfl Tryd.underlying102 rfl (Rd.old (hk.at (by omega)))) ?_
    refine JW.val rfl rfl (.none rfl) (Ev.bin rfl rfl add_u32) ?_
    refine JW.val rfl rfl (.none rfl) (Ev.move rfl) ?_
    refine JW.val rfl rfl (.none rfl) (Ev.idxB1 rfl rfl Tryd.underlying214 Tryd.sizeOf102 (k := k) rfl (by omega)) ?_
    refine JW.val rfl rfl (.none rfl) (Ev.load1 rfl Tryd.underlying102 rfl (Rd.own (by repeat (first | exact List.Mem.head _ | refine List.Mem.tail _ ?_ | refine List.mem_append_right _ ?_ | assumption)) (sched_at l (by omega)))) ?_
    refine JW.val rfl rfl (.none rfl) (Ev.bin rfl rfl add_u32) ?_
    refine JW.val rfl rfl (.none rfl) (Ev.assign rfl) ?_
    refine JW.nilQ ?_
    refine JQ.thenN ?_
    refine JC.seq ?_
    -- region 7
    refine JC.regionQ (by kernel_rfl) (by kernel_rfl) ?_
    refine JW.val rfl rfl (.none rfl) (Ev.move rfl) ?_
    refine JW.call rfl (.none rfl) rfl Tryd.call160 (fun w1 hw1 => right_any _ 2 (by decide) (by decide) w1) ?_
    refine JW.val rfl rfl (.none rfl) (Ev.move rfl) ?_
    refine JW.call rfl (.none rfl) rfl Tryd.call160 (fun w1 hw1 => right_any _ 13 (by decide) (by decide) w1) ?_
    refine JW.val rfl rfl (.none rfl) (Ev.bin rfl rfl xor_u32) ?_
    refine JW.val rfl rfl (.none rfl) (Ev.move rfl) ?_
    refine JW.call rfl (.none rfl) rfl Tryd.call160 (fun w1 hw1 => right_any _ 22 (by decide) (by decide) w1) ?_
    refine JW.val rfl rfl (.none rfl) (Ev.bin rfl rfl xor_u32) ?_
    refine JW.val rfl rfl (.none rfl) (Ev.move rfl) ?_
    refine JW.val rfl rfl (.none rfl) (Ev.idxB1 (k := 1) rfl rfl Tryd.underlying192 Tryd.sizeOf102 rfl (by omega)) ?_
    refine JW.val rfl rfl (.none rfl) (Ev.load1 rfl Tryd.underlying102 rfl (Rd.own (by repeat (first | exact List.Mem.head _ | refine List.Mem.tail _ ?_ | refine List.mem_append_right _ ?_ | assumption)) rfl)) ?_
    refine JW.val rfl rfl (.none rfl) (Ev.idxB1 (k := 2) rfl rfl Tryd.underlying192 Tryd.sizeOf102 rfl (by omega)) ?_
    refine JW.val rfl rfl (.none rfl) (Ev.load1 rfl Tryd.underlying102 rfl (Rd.own (by repeat (first | exact List.Mem.head _ | refine List.Mem.tail _ ?_ | refine List.mem_append_right _ ?_ | assumption)) rfl)) ?_
    refine JW.val rfl rfl (.none rfl) (Ev.bin rfl rfl or_u32) ?_
    refine JW.val rfl rfl (.none rfl) (Ev.bin rfl rfl and_u32) ?_
    refine JW.val rfl rfl (.none rfl) (Ev.idxB1 (k := 1) rfl rfl Tryd.underlying192 Tryd.sizeOf102 rfl (by omega)) ?_
    refine JW.val rfl rfl (.none rfl) (Ev.load1 rfl Tryd.underlying102 rfl (Rd.own (by repeat (first | exact List.Mem.head _ | refine List.Mem.tail _ ?_ | refine List.mem_append_right _ ?_ | assumption)) rfl)) ?_
    refine JW.val rfl rfl (.none rfl) (Ev.idxB1 (k := 2) rfl rfl Tryd.underlying192 Tryd.sizeOf102 rfl (by omega)) ?_
    refine JW.val rfl rfl (.none rfl) (Ev.load1 rfl Tryd.underlying102 rfl (Rd.own (by repeat (first | exact List.Mem.head _ | refine List.Mem.tail _ ?_ | refine List.mem_append_right _ ?_ | assumption)) rfl)) ?_
    refine JW.val rfl rfl (.none rfl) (Ev.bin rfl rfl and_u32) ?_
    refine JW.val rfl rfl (.none rfl) (Ev.bin rfl rfl or_u32) ?_
    refine JW.val rfl rfl (.none rfl) (Ev.bin rfl rfl add_u32) ?_
    refine JW.val rfl rfl (.none rfl) (Ev.assign rfl) ?_
    refine JW.nilQ ?_
    refine JQ.thenN ?_
    refine JC.seq ?_
    -- region 8
    refine JC.regionT 2 (by kernel_rfl) (by kernel_rfl) (List.take_append_drop 2 _).symm rfl ?_
    refine JW.val rfl rfl (.none rfl) (Ev.sliceALo rfl rfl Tryd.underlying192 Tryd.sizeOf102 (l := 1) rfl (by omega)) ?_
    refine JW.val rfl rfl (.none rfl) (Ev.sliceAHi rfl rfl Tryd.underlying192 Tryd.sizeOf102 (h := 7) rfl (by omega)) ?_
    refine JW.tail ?_
    refine JL.gen rfl rfl rfl (.none rfl) (Eg.copy (b := b6) (n := 7) (o := 1) (l := ((rounds s l k).l.take 7).map u32) rfl rfl Tryd.underlying217 Tryd.sizeOf102 (by repeat (first | exact .here | apply Upd.there | apply Upd.left)) rfl rfl (Rds.own (by repeat (first | exact List.Mem.head _ | refine List.Mem.tail _ ?_ | refine List.mem_append_right _ ?_ | assumption)) (arr32_pre _ 7)) (by show 8 ≤ 8; omega) (fun u hu => arr32_one _ u (List.mem_of_mem_take (by simpa [arr32, List.map_take] using hu)))) ?_
    rintro _ _ ⟨rfl, rfl⟩
    refine JL.reH (o' := .cells (arr32 [(rounds s l k).a, (rounds s l k).a, (rounds s l k).b, (rounds s l k).c, (rounds s l k).d, (rounds s l k).e, (rounds s l k).f, (rounds s l k).g]) 192 (0, 0)) .here rfl ?_
    refine JL.nil ?_
    refine JQ.thenN ?_
    refine JC.seq ?_
    -- region 9
    refine JC.region ?_
    refine JL.val rfl rfl rfl (.none rfl) (Ev.idxB1 (k := 4) rfl rfl Tryd.underlying192 Tryd.sizeOf102 rfl (by omega)) ?_
    refine JL.val rfl rfl rfl (.none rfl) (Ev.load1 rfl Tryd.underlying102 rfl (Rd.own (by repeat (first | exact List.Mem.head _ | refine List.Mem.tail _ ?_ | refine List.mem_append_right _ ?_ | assumption)) rfl)) ?_
    refine JL.val rfl rfl rfl (.none rfl) (Ev.move rfl) ?_
    refine JL.val rfl rfl rfl (.none rfl) (Ev.bin rfl rfl add_u32) ?_
    refine JL.val rfl rfl rfl (.none rfl) (Ev.idxB1 (k := 4) rfl rfl Tryd.underlying192 Tryd.sizeOf102 rfl (by omega)) ?_
    refine JL.sto rfl rfl (.none rfl) (Es.store1 rfl rfl Tryd.sizeOf102 rfl rfl (by repeat (first | exact .here | apply Upd.there | apply Upd.left)) (by show 4 < 8; omega)) ?_
    refine JL.nil ?_
    refine JQ.thenN ?_
    -- region 10
    refine JC.region ?_
    refine JL.val rfl rfl rfl (.none rfl) (Ev.move rfl) ?_
    refine JL.val rfl rfl rfl (.none rfl) (Ev.move rfl) ?_
    refine JL.val rfl rfl rfl (.none rfl) (Ev.bin rfl rfl add_u32) ?_
    refine JL.val rfl rfl rfl (.none rfl) (Ev.idxB1 (k := 0) rfl rfl Tryd.underlying192 Tryd.sizeOf102 rfl (by omega)) ?_
    refine JL.sto rfl rfl (.none rfl) (Es.store1 rfl rfl Tryd.sizeOf102 rfl rfl (by repeat (first | exact .here | apply Upd.there | apply Upd.left)) (by show 0 < 8; omega)) ?_
    refine JL.nil ?_
    refine JQ.blockN ?_
    refine JQ.thenN ?_
    -- region 11
    refine JC.region ?_
    refine JL.val rfl rfl rfl (.none rfl) (Ev.bin rfl rfl (add_i64 (by omega))) ?_
    refine JL.val rfl rfl rfl (.none rfl) (Ev.move rfl) ?_
    refine JL.nil ?_
    refine JQ.reH (o' := .cells (arr32 (rounds s l (k + 1)).l) 192 (0, 0)) .here rfl ?_
    refine JQ.loopN (k + 1) ?_ ?_ ?_ ?_
    · exact Keeps.get (by repeat (first | exact Keeps.nil | refine Keeps.cons rfl ?_))
    · first | exact Sub.all | exact Sub.of_cnt (fun a => by (try dsimp only); simp only [cntA]; omega) | repeat (first | exact Sub.nil | refine Sub.cons (by first | exact .here | exact .there .here | exact .there (.there .here) | exact .there (.there (.there .here)) | exact .there (.there (.there (.there .here)))) ?_ | exact Sub.all)
    · omega
    · omega
  · -- t17 False
    replace hc1 := of_decide_eq_false hc1
    refine JC.exit ?_
    refine JQ.thenE ?_
    refine JQ.thenE ?_
    refine JQ.blockE ?_
    refine JQ.thenN ?_
    refine JC.seq ?_
    refine JC.seq ?_
    -- region 12
    refine JC.region ?_
    refine JL.val rfl rfl rfl (.none rfl) (Ev.move rfl) ?_
    refine JL.nil ?_
    refine JQ.thenN ?_
    refine JC.block ?_
    obtain rfl : k = 64 := by omega
    refine JC.loop (X := Nat)
      (fun k => [(2, .pointer (some ⟨b2, 0, none⟩)), (4, .pointer (some ⟨b4, 0, none⟩)), (6, .pointer (some ⟨b6, 0, none⟩)), (88, .int .i64 (k : Int))])
      (fun k => [(b6, .cells (arr32 (rounds s l 64).l) 192 (0, 0)), (b4, .cells (arr32 (List.replicate 8 0)) 192 (0, 0)), (b2, .cells (arr32 (addK s (rounds s l 64) k)) 192 (0, 0))])
      (fun k => k ≤ 8)
      (fun k => 8 - k) 0 ?_ ?_ ?_ ?_
    · exact Keeps.get (by repeat (first | exact Keeps.nil | refine Keeps.cons rfl ?_))
    · first | exact Sub.all | exact Sub.of_cnt (fun a => by (try dsimp only); simp only [cntA]; omega) | repeat (first | exact Sub.nil | refine Sub.cons (by first | exact .here | exact .there .here | exact .there (.there .here) | exact .there (.there (.there .here)) | exact .there (.there (.there (.there .here)))) ?_ | exact Sub.all)
    · omega
    rintro k hk8
    refine JC.seq ?_
    -- region 13
    refine JC.region ?_
    refine JL.val rfl rfl rfl (.none rfl) (Ev.bin rfl rfl lss_int) ?_
    refine JL.nil ?_
    refine JQ.thenN ?_
    refine JC.seq ?_
    refine JC.cond rfl (fun hc2 => ?_) (fun hc2 => ?_)
    · -- t89 True
      replace hc2 := of_decide_eq_true hc2
      refine JC.skip ?_
      refine JQ.thenN ?_
      refine JC.seq ?_
      refine JC.block ?_
      refine JC.seq ?_
      -- region 14
      refine JC.region ?_
      refine JL.val rfl rfl rfl (.none rfl) (Ev.move rfl) ?_
      refine JL.val rfl rfl rfl (.none rfl) (Ev.assign rfl) ?_
      refine JL.nil ?_
      refine JQ.thenN ?_
      -- region 15
      refine JC.regionT 8 (by kernel_rfl) (by kernel_rfl) (List.take_append_drop 8 _).symm rfl ?_
      refine JW.val rfl rfl (.none rfl) (Ev.move rfl) ?_
      refine JW.val rfl rfl (.none rfl) (Ev.idxB1 rfl rfl Tryd.underlying192 Tryd.sizeOf102 (k := k) rfl (by omega)) ?_
      refine JW.val rfl rfl (.none rfl) (Ev.load1 rfl Tryd.underlying102 rfl (Rd.own (by repeat (first | exact List.Mem.head _ | refine List.Mem.tail _ ?_ | refine List.mem_append_right _ ?_ | assumption)) (addK_at s _ (by omega)))) ?_
      refine JW.val rfl rfl (.none rfl) (Ev.move rfl) ?_
      refine JW.val rfl rfl (.none rfl) (Ev.idxB1 rfl rfl Tryd.underlying192 Tryd.sizeOf102 (k := k) rfl (by omega)) ?_
      refine JW.val rfl rfl (.none rfl) (Ev.load1 rfl Tryd.underlying102 rfl (Rd.own (by repeat (first | exact List.Mem.head _ | refine List.Mem.tail _ ?_ | refine List.mem_append_right _ ?_ | assumption)) (stl_at _ (by omega)))) ?_
      refine JW.val rfl rfl (.none rfl) (Ev.bin rfl rfl add_u32) ?_
      refine JW.val rfl rfl (.none rfl) (Ev.idxB1 rfl rfl Tryd.underlying192 Tryd.sizeOf102 (k := k) rfl (by omega)) ?_
      refine JW.tail ?_
      refine JL.sto rfl rfl (.none rfl) (Es.store1 rfl rfl Tryd.sizeOf102 rfl rfl (by repeat (first | exact .here | apply Upd.there | apply Upd.left)) (by rw [arr32_size, addK_length _ _ (by omega)]; omega)) ?_
      refine JL.nil ?_
      refine JQ.blockN ?_
      refine JQ.thenN ?_
      -- region 16
      refine JC.region ?_
      refine JL.val rfl rfl rfl (.none rfl) (Ev.bin rfl rfl (add_i64 (by omega))) ?_
      refine JL.val rfl rfl rfl (.none rfl) (Ev.move rfl) ?_
      refine JL.nil ?_
      refine JQ.reH (.there (.there .here)) (congrArg (fun c => Obj.cells c 192 (0, 0)) (addK_set s _ (by omega))) ?_
      refine JQ.loopN (k + 1) ?_ ?_ ?_ ?_
      · exact Keeps.get (by repeat (first | exact Keeps.nil | refine Keeps.cons rfl ?_))
      · first | exact Sub.all | exact Sub.of_cnt (fun a => by (try dsimp only); simp only [cntA]; omega) | repeat (first | exact Sub.nil | refine Sub.cons (by first | exact .here | exact .there .here | exact .there (.there .here) | exact .there (.there (.there .here)) | exact .there (.there (.there (.there .here)))) ?_ | exact Sub.all)
      · omega
      · omega
    · -- t89 False
      replace hc2 := of_decide_eq_false hc2
      refine JC.exit ?_
      refine JQ.thenE ?_
      refine JQ.thenE ?_
      refine JQ.blockE ?_
      refine JQ.thenN ?_
      refine JC.seq ?_
      -- region 17
      refine JC.region ?_
      obtain rfl : k = 8 := by omega
      refine JL.val rfl rfl rfl (.none rfl) (Ev.loadB rfl (by repeat (first | exact List.Mem.head _ | refine List.Mem.tail _ ?_ | refine List.mem_append_right _ ?_ | assumption)) Tryd.underlying192 rfl Tryd.sizeOf192 (by first | rfl | exact dig_size _ | (rw [arr8_size]; first | exact sha_length _ | exact shaO_length _ | assumption))) ?_
      refine JL.sto rfl rfl (.none rfl) (Es.storeA rfl rfl Tryd.sizeOf192 (by repeat (first | exact .here | apply Upd.there | apply Upd.left)) (by first | rfl | exact dig_size _ | (rw [arr8_size]; first | exact sha_length _ | exact shaO_length _ | assumption)) (by first | rfl | exact dig_size _ | (rw [arr8_size]; first | exact sha_length _ | exact shaO_length _ | assumption)) (arr32_one _)) ?_
      refine JL.nil ?_
      refine JQ.thenN ?_
      refine JC.ret ?_
      refine JQ.end1 (H' := []) (.inl rfl) rfl (.agg rfl (by repeat (first | exact List.Mem.head _ | refine List.Mem.tail _ ?_ | refine List.mem_append_right _ ?_ | assumption)) Tryd.underlying192 rfl Tryd.sizeOf192 (by first | rfl | exact dig_size _ | (rw [arr8_size]; first | exact sha_length _ | exact shaO_length _ | assumption))) ?_ ?_
      · first | exact Sub.all | exact Sub.of_cnt (fun a => by (try dsimp only); simp only [cntA]; omega) | repeat (first | exact Sub.nil | refine Sub.cons (by first | exact .here | exact .there .here | exact .there (.there .here) | exact .there (.there (.there .here)) | exact .there (.there (.there (.there .here)))) ?_ | exact Sub.all)
      · exact rfl

end Go.Proofs.YtopaednfjjjnbaaDoor
namespace Go.Proofs.YtopaednfjjjnbaaDoor
open Go Go.RowKit
set_option maxRecDepth 100000

theorem lenBytes_take (n : Nat) {i : Nat} (hi : i < 8) : (lenBytes n).take (i + 1) = (lenBytes n).take i ++ [((UInt64.ofNat n * 8) >>> UInt64.ofNat (56 - 8 * i)).toUInt8] := by
  rcases (by omega : i = 0 ∨ i = 1 ∨ i = 2 ∨ i = 3 ∨ i = 4 ∨ i = 5 ∨ i = 6 ∨ i = 7) with h | h | h | h | h | h | h | h <;> subst h <;> rfl
theorem pad_sum (n z : Nat) : n + 9 + z = n + 1 + z + 8 := by omega

theorem clone_any (oa : Option Addr) (cap : Nat) (l : List UInt8) (w : World) (hb : Bs w oa cap l) (hl : l.length ≤ 1000000) :
    Calls Tryd.prog 158 #[.slice oa l.length cap] w (Ret w (fun v H => ∃ r, v = Row.v l.length r ∧ H = Row.b 5 r ∧ Row.ok 1 l.length (l.map u8) r)) := by
  refine enter (vs := [.slice oa l.length cap]) Tryd.func158 rfl Tryd.ntmps158 rfl ?_
  refine JC.seq ?_
  -- region 0
  refine JC.region ?_
  refine JL.val rfl rfl rfl (.none rfl) (Ev.assign rfl) ?_
  refine JL.nil ?_
  refine JQ.thenN ?_
  refine JC.seq ?_
  refine JC.seq ?_
  -- region 1
  refine JC.region ?_
  refine JL.val rfl rfl rfl (.none rfl) (Ev.move rfl) ?_
  refine JL.val rfl rfl rfl (.none rfl) (Ev.bin rfl rfl (eql_slice_nil Tryd.underlying28)) ?_
  refine JL.nil ?_
  refine JQ.thenN ?_
  refine JC.cond rfl (fun hc1 => ?_) (fun hc1 => ?_)
  · -- t4 True
    have hoa : oa = none := by simpa using hc1
    have hl0 : l = [] := List.eq_nil_of_length_eq_zero (by have := hb.le; have := hb.empty hoa; omega)
    refine JC.seq ?_
    -- region 2
    refine JC.region ?_
    refine JL.val rfl rfl rfl (.none rfl) (Ev.assign rfl) ?_
    refine JL.nil ?_
    refine JQ.thenN ?_
    refine JC.ret ?_
    refine JQ.thenR ?_
    refine JQ.end1 (H' := []) (.inl rfl) rfl (.tmp rfl) ?_ ?_
    · first | exact Sub.nil | exact Sub.all
    · exact ⟨none, by rw [hl0]; rfl, rfl, by rw [hl0]; exact ⟨rfl, rfl⟩⟩
  · -- t4 False
    refine JC.skip ?_
    refine JQ.thenN ?_
    refine JC.seq ?_
    -- region 3
    refine JC.region ?_
    refine JL.new rfl rfl rfl (.none rfl) (En.bsN (e := 5) rfl (fun _ => by kernel_rfl)) (fun b5 hb5 => ?_)
    refine JL.val rfl rfl rfl (.none rfl) (Ev.move rfl) ?_
    refine JL.gen rfl rfl rfl (.none rfl) (Eg.append (r := (some ⟨b5, 0, #[]⟩)) (n := 0) (m := l.length) (xs := []) (news := (l.map u8)) (z := (.int .u8 0)) (s := 1) (bytes := 1) rfl rfl rfl (by repeat (first | exact .last | exact .here | apply Cut.past | apply Cut.there)) Tryd.underlying28 (by kernel_rfl) rfl (by decide) (by decide) ⟨rfl, by simp, by simp, rfl, rfl⟩ (by simp) (fun a ha => Rds.old (hb.mem a ha)) (fun h => by have := hb.le; have := hb.empty h; omega) (u8s_one l) (by omega)) ?_
    rintro _ _ ⟨r1, rfl, rfl, hr1, hn1⟩
    refine JL.val rfl rfl rfl (.none rfl) (Ev.assign rfl) ?_
    refine JL.nil ?_
    refine JQ.thenN ?_
    refine JC.ret ?_
    refine JQ.end1 (H' := (Row.b 5 r1)) (.inl rfl) rfl (.tmp rfl) ?_ ?_
    · first | exact Sub.nil | exact Sub.all
    · exact ⟨r1, by rw [Nat.zero_add], rfl, by rw [Nat.zero_add] at hr1; exact hr1⟩

theorem padded_any (oa : Option Addr) (cap : Nat) (l : List UInt8) (w : World) (hb : Bs w oa cap l) (hl : l.length ≤ 1000000) :
    Calls Tryd.prog 137 #[.slice oa l.length cap] w (Ret w (fun v H => ∃ r : Row, v = Row.v (pad l).length (some r) ∧ H = Row.b 5 (some r) ∧ Row.ok 1 (pad l).length ((pad l).map u8) (some r))) := by
  refine enter (vs := [.slice oa l.length cap]) Tryd.func137 rfl Tryd.ntmps137 rfl ?_
  refine JC.seq ?_
  -- region 0
  refine JC.region ?_
  refine JL.val rfl rfl rfl (.none rfl) (Ev.assign rfl) ?_
  refine JL.nil ?_
  refine JQ.thenN ?_
  refine JC.seq ?_
  -- region 1
  refine JC.region ?_
  refine JL.val rfl rfl rfl (.none rfl) (Ev.move rfl) ?_
  refine JL.val rfl rfl rfl (.none rfl) (Ev.lenS rfl Tryd.underlying28) ?_
  refine JL.val rfl rfl rfl (.none rfl) (Ev.assign rfl) ?_
  refine JL.nil ?_
  refine JQ.thenN ?_
  refine JC.seq ?_
  -- region 2
  refine JC.region ?_
  refine JL.val rfl rfl rfl (.none rfl) (Ev.move rfl) ?_
  refine JL.callN rfl (.none rfl) rfl Tryd.call158 (fun w1 hw1 => clone_any oa cap l w1 (hb.old hw1) hl) ?_
  rintro _ _ ⟨r0, rfl, rfl, hr0⟩
  refine JL.new rfl rfl rfl (.none rfl) (En.bsN (e := 5) rfl (fun _ => by kernel_rfl)) (fun b10 hb10 => ?_)
  refine JL.gen rfl rfl rfl (.none rfl) (Eg.append1 (r := r0) (n := l.length) (m := 1) (xs := (l.map u8)) (news := [u8 128]) (z := (.int .u8 0)) (s := 1) (bytes := 1) rfl rfl rfl (by repeat (first | exact .last | exact .here | apply Cut.past | apply Cut.there)) Tryd.underlying28 (by kernel_rfl) rfl (by decide) (by decide) hr0 (Rds.all (by repeat (first | exact List.Mem.head _ | refine List.Mem.tail _ ?_ | refine List.mem_append_right _ ?_ | assumption))) rfl (by decide) (by intro u hu; simp at hu; subst hu; rfl) (by omega)) ?_
  rintro _ _ ⟨r1, rfl, rfl, hr1⟩
  refine JL.val rfl rfl rfl (.none rfl) (Ev.assign rfl) ?_
  refine JL.nil ?_
  refine JQ.thenN ?_
  refine JC.seq ?_
  -- region 3
  refine JC.region ?_
  refine JL.val rfl rfl rfl (.none rfl) (Ev.move rfl) ?_
  refine JL.val rfl rfl rfl (.none rfl) (Ev.move rfl) ?_
  refine JL.val rfl rfl rfl (.none rfl) (Ev.bin rfl rfl (add_i64 (by omega))) ?_
  refine JL.val rfl rfl rfl (.none rfl) (Ev.bin rfl rfl (rem_i64 (by omega))) ?_
  refine JL.val rfl rfl rfl (.none rfl) (Ev.bin rfl rfl (sub_i64 (by omega))) ?_
  refine JL.val rfl rfl rfl (.none rfl) (Ev.bin rfl rfl (rem_i64 (by omega))) ?_
  have hz : zeros l.length < 64 := by unfold zeros; omega
  refine JL.re (d := 17) (v' := .int .i64 ((zeros l.length : Nat) : Int)) rfl (congrArg (Value.int .i64) (by unfold zeros; omega)) ?_
  refine JL.gen rfl rfl rfl (.none rfl) (Eg.appendZs (r := r1) (n := l.length + 1) (k := zeros l.length) (xs := l.map u8 ++ [u8 128]) (z := (.int .u8 0)) (bytes := 1) rfl rfl rfl (by repeat (first | exact .last | exact .here | apply Cut.past | apply Cut.there)) Tryd.underlying28 Tryd.underlying3 (by kernel_rfl) rfl rfl (by decide) hr1 (by omega)) ?_
  rintro _ _ ⟨r2, rfl, rfl, hr2⟩
  refine JL.val rfl rfl rfl (.none rfl) (Ev.assign rfl) ?_
  refine JL.nil ?_
  refine JQ.thenN ?_
  refine JC.seq ?_
  refine JC.seq ?_
  -- region 4
  refine JC.region ?_
  refine JL.val rfl rfl rfl (.none rfl) (Ev.assign rfl) ?_
  refine JL.nil ?_
  refine JQ.thenN ?_
  refine JC.block ?_
  refine JC.loop (X := Nat × Row)
    (fun ⟨i, r⟩ => [(3, .int .i64 (l.length : Int)), (4, Row.v (l.length + 1 + zeros l.length + i) (some r)), (5, .int .i64 (56 - 8 * (i : Int)))])
    (fun ⟨i, r⟩ => Row.b 5 (some r))
    (fun ⟨i, r⟩ => i ≤ 8 ∧ Row.ok 1 (l.length + 1 + zeros l.length + i) ((l ++ [128] ++ List.replicate (zeros l.length) 0 ++ (lenBytes l.length).take i).map u8) (some r))
    (fun ⟨i, r⟩ => 8 - i) (0, r2) ?_ ?_ ?_ ?_
  · exact Keeps.get (by repeat (first | exact Keeps.nil | refine Keeps.cons rfl ?_))
  · repeat (first | exact Sub.nil | refine Sub.cons (by first | exact .here | exact .there .here | exact .there (.there .here)) ?_)
  · exact ⟨Nat.zero_le _, by simpa [List.map_append, List.append_assoc, u8] using hr2⟩
  rintro ⟨i, r⟩ ⟨hi, hr⟩
  have hz : zeros l.length < 64 := by unfold zeros; omega
  refine JC.seq ?_
  refine JC.seq ?_
  -- region 5
  refine JC.region ?_
  refine JL.val rfl rfl rfl (.none rfl) (Ev.move rfl) ?_
  refine JL.val rfl rfl rfl (.none rfl) (Ev.bin rfl rfl geq_int) ?_
  refine JL.nil ?_
  refine JQ.thenN ?_
  refine JC.cond rfl (fun hc1 => ?_) (fun hc1 => ?_)
  · -- t20 True
    replace hc1 := of_decide_eq_true hc1
    refine JC.skip ?_
    refine JQ.thenN ?_
    refine JC.seq ?_
    refine JC.block ?_
    -- region 7
    refine JC.region ?_
    refine JL.val rfl rfl rfl (.none rfl) (Ev.move rfl) ?_
    refine JL.val rfl rfl rfl (.none rfl) (Ev.move rfl) ?_
    refine JL.val rfl rfl rfl (.none rfl) (Ev.conv rfl (conv_i64_u64 Tryd.underlying3 Tryd.underlying34 (by omega))) ?_
    refine JL.val rfl rfl rfl (.none rfl) (Ev.bin rfl rfl (mul_u64 (y := 8))) ?_
    refine JL.val rfl rfl rfl (.none rfl) (Ev.move rfl) ?_
    refine JL.re (d := 27) (v' := .int .i64 ((56 - 8 * i : Nat) : Int)) rfl (congrArg (Value.int .i64) (by omega)) ?_
    refine JL.val rfl rfl rfl (.none rfl) (Ev.bin rfl rfl (shr_u64 (n := 56 - 8 * i) (by omega))) ?_
    refine JL.val rfl rfl rfl (.none rfl) (Ev.conv rfl (conv_u64_u8 Tryd.underlying34 Tryd.underlying5)) ?_
    refine JL.new rfl rfl rfl (.none rfl) (En.bsN (e := 5) rfl (fun _ => by kernel_rfl)) (fun b30 hb30 => ?_)
    refine JL.gen rfl rfl rfl (.none rfl) (Eg.append1 (r := (some r)) (n := l.length + 1 + zeros l.length + i) (m := 1) (xs := ((l ++ [128] ++ List.replicate (zeros l.length) 0 ++ (lenBytes l.length).take i).map u8)) (news := [u8 ((UInt64.ofNat l.length * 8) >>> UInt64.ofNat (56 - 8 * i)).toUInt8]) (z := (.int .u8 0)) (s := 1) (bytes := 1) rfl rfl rfl (by repeat (first | exact .last | exact .here | apply Cut.past | apply Cut.there)) Tryd.underlying28 (by kernel_rfl) rfl (by decide) (by decide) hr (Rds.all (by repeat (first | exact List.Mem.head _ | refine List.Mem.tail _ ?_ | refine List.mem_append_right _ ?_ | assumption))) rfl (by decide) (by intro u hu; simp at hu; subst hu; rfl) (by omega)) ?_
    rintro _ _ ⟨r3, rfl, rfl, hr3⟩
    refine JL.val rfl rfl rfl (.none rfl) (Ev.assign rfl) ?_
    refine JL.nil ?_
    refine JQ.blockN ?_
    refine JQ.thenN ?_
    -- region 6
    refine JC.region ?_
    refine JL.val rfl rfl rfl (.none rfl) (Ev.move rfl) ?_
    refine JL.val rfl rfl rfl (.none rfl) (Ev.bin rfl rfl (sub_i64 (by omega))) ?_
    refine JL.val rfl rfl rfl (.none rfl) (Ev.assign rfl) ?_
    refine JL.nil ?_
    refine JQ.re (d := 5) (v' := .int .i64 (56 - 8 * ((i + 1 : Nat) : Int))) rfl (congrArg (Value.int .i64) (by omega)) ?_
    refine JQ.loopN (i + 1, r3) ?_ ?_ ?_ ?_
    · exact Keeps.get (by repeat (first | exact Keeps.nil | refine Keeps.cons rfl ?_))
    · first | exact Sub.all | exact Sub.of_cnt (fun a => by (try dsimp only); simp only [cntA]; omega) | repeat (first | exact Sub.nil | refine Sub.cons (by first | exact .here | exact .there .here | exact .there (.there .here) | exact .there (.there (.there .here)) | exact .there (.there (.there (.there .here)))) ?_ | exact Sub.all)
    · exact ⟨by omega, by simpa [lenBytes_take _ (show i < 8 by omega), List.map_append, List.append_assoc, Nat.add_assoc] using hr3⟩
    · show 8 - (i + 1) < 8 - i; omega
  · -- t20 False
    replace hc1 := of_decide_eq_false hc1
    refine JC.exit ?_
    refine JQ.thenE ?_
    refine JQ.thenE ?_
    refine JQ.blockE ?_
    refine JQ.thenN ?_
    refine JC.seq ?_
    -- region 8
    refine JC.region ?_
    refine JL.val rfl rfl rfl (.none rfl) (Ev.move rfl) ?_
    refine JL.val rfl rfl rfl (.none rfl) (Ev.assign rfl) ?_
    refine JL.nil ?_
    refine JQ.thenN ?_
    refine JC.ret ?_
    obtain rfl : i = 8 := by omega
    refine JQ.end1 (H' := (Row.b 5 (some r))) (.inl rfl) rfl (.tmp rfl) ?_ ?_
    · first | exact Sub.all | exact Sub.of_cnt (fun a => by (try dsimp only); simp only [cntA]; omega) | repeat (first | exact Sub.nil | refine Sub.cons (by first | exact .here | exact .there .here | exact .there (.there .here) | exact .there (.there (.there .here)) | exact .there (.there (.there (.there .here)))) ?_ | exact Sub.all)
    · exact ⟨r, by rw [pad_length, pad_sum], rfl, by rw [pad_length, pad_sum]; exact hr⟩

end Go.Proofs.YtopaednfjjjnbaaDoor
namespace Go.Proofs.YtopaednfjjjnbaaDoor
open Go Go.RowKit
set_option maxRecDepth 100000

end Go.Proofs.YtopaednfjjjnbaaDoor
namespace Go.Proofs.YtopaednfjjjnbaaDoor
open Go Go.RowKit
set_option maxRecDepth 100000

def padO (l : List UInt8) : List UInt8 := if 8192 < l.length then [] else pad l
end Go.Proofs.YtopaednfjjjnbaaDoor
namespace Go.Proofs.YtopaednfjjjnbaaDoor
open Go Go.RowKit
set_option maxRecDepth 100000

def four (x : UInt32) : List UInt8 := [(x >>> UInt32.ofNat 24).toUInt8, (x >>> UInt32.ofNat 16).toUInt8, (x >>> UInt32.ofNat 8).toUInt8, x.toUInt8]
def outK (s : St) (i : Nat) : List UInt8 := (outBytes s).take (4 * i) ++ List.replicate (32 - 4 * i) 0
theorem outK_length (s : St) {i : Nat} (hi : i ≤ 8) : (outK s i).length = 32 := by
  rcases (by omega : i = 0 ∨ i = 1 ∨ i = 2 ∨ i = 3 ∨ i = 4 ∨ i = 5 ∨ i = 6 ∨ i = 7 ∨ i = 8) with h | h | h | h | h | h | h | h | h <;> subst h <;> rfl
theorem outK_over (s : St) {i : Nat} (hi : i < 8) : over (arr8 (outK s i)) (4 * i) ((four (s.l.getD i 0)).map u8) = arr8 (outK s (i + 1)) := by
  rcases (by omega : i = 0 ∨ i = 1 ∨ i = 2 ∨ i = 3 ∨ i = 4 ∨ i = 5 ∨ i = 6 ∨ i = 7) with h | h | h | h | h | h | h | h <;> subst h <;> rfl
theorem mem_of_row {w0 w : World} {H : Blocks} {e : TypeId} {n : Nat} {r : Row} {l : List UInt8} (hw : Hp w0 H w) (hm : (r.g, Obj.cells r.cs e (0, 0)) ∈ H) (hr : Row.ok 1 n (l.map u8) (some r)) : BMem w ⟨r.g, 0, none⟩ l := by
  refine Mem.own hw hm fun j v hj => ?_
  rw [← hr.2.2.2.2] at hj
  rw [List.getElem?_take] at hj
  split at hj
  · simpa using hj
  · cases hj
def shaO (l : List UInt8) : List UInt8 := if 8192 < l.length then List.replicate 32 0 else sha l
theorem shaO_big {l : List UInt8} (h : 8192 < l.length) : shaO l = List.replicate 32 0 := if_pos h
theorem shaO_small {l : List UInt8} (h : ¬ 8192 < l.length) : shaO l = sha l := if_neg h

theorem chunk_any (oa : Option Addr) (len cap : Nat) (w : World) :
    Calls Tryd.prog 136 #[.slice oa len cap, .int .i64 64] w (Ret w (fun v H => ∃ bs bn, v = .func (.func 157) #[] #[.pointer (some ⟨bs, 0, none⟩), .pointer (some ⟨bn, 0, none⟩)] ∧ H = [(bn, .cells #[.int .i64 64] 3 (0, 0)), (bs, .cells #[.slice oa len cap] 28 (0, 0))])) := by
  refine enter (vs := [.slice oa len cap, .int .i64 64]) Tryd.func136 rfl Tryd.ntmps136 rfl ?_
  refine JC.seq ?_
  -- region 0
  refine JC.region ?_
  refine JL.new rfl rfl rfl (.none rfl) (En.box1 rfl rfl) (fun b2 hb2 => ?_)
  refine JL.new rfl rfl rfl (.none rfl) (En.box1 rfl rfl) (fun b3 hb3 => ?_)
  refine JL.val rfl rfl rfl (.none rfl) (Ev.assign rfl) ?_
  refine JL.nil ?_
  refine JQ.thenN ?_
  refine JC.seq ?_
  refine JC.seq ?_
  -- region 1
  refine JC.region ?_
  refine JL.val rfl rfl rfl (.none rfl) (Ev.load1 rfl Tryd.underlying3 rfl (Rd.own (by repeat (first | exact List.Mem.head _ | refine List.Mem.tail _ ?_ | refine List.mem_append_right _ ?_ | assumption)) rfl)) ?_
  refine JL.val rfl rfl rfl (.none rfl) (Ev.bin rfl rfl lss_int) ?_
  refine JL.nil ?_
  refine JQ.thenN ?_
  refine JC.knowF rfl ?_ ?_
  · rfl
  refine JC.skip ?_
  refine JQ.thenN ?_
  refine JC.seq ?_
  -- region 3
  refine JC.region ?_
  refine JL.val rfl rfl rfl (.none rfl) (Ev.makeFunc rfl) ?_
  refine JL.val rfl rfl rfl (.none rfl) (Ev.assign rfl) ?_
  refine JL.nil ?_
  refine JQ.thenN ?_
  refine JC.ret ?_
  refine JQ.end1 (H' := [(b3, .cells #[.int .i64 64] 3 (0, 0)), (b2, .cells #[.slice oa len cap] 28 (0, 0))]) (.inl rfl) rfl (.tmp rfl) ?_ ?_
  · first | exact Sub.all | exact Sub.of_cnt (fun a => by (try dsimp only); simp only [cntA]; omega) | repeat (first | exact Sub.nil | refine Sub.cons (by first | exact .here | exact .there .here | exact .there (.there .here) | exact .there (.there (.there .here)) | exact .there (.there (.there (.there .here)))) ?_ | exact Sub.all)
  · exact ⟨b2, b3, rfl, rfl⟩

theorem chunkIter_any (w0 w : World) (l bs bn N cap : Nat) (a : Addr) (HB : Nat → Blocks) (hs : ∀ k, (bs, .cells #[.slice (some a) (64 * N) cap] 28 (0, 0)) ∈ HB k) (hn : ∀ k, (bn, .cells #[.int .i64 64] 3 (0, 0)) ∈ HB k) (hcap : 64 * N ≤ cap) (hmax : 64 * N ≤ 9007199254740992) (hy : ∀ k, k < N → ∀ w1, Hp w0 (HB k) w1 → YieldOk Tryd.prog l #[.slice (some (a.add (64 * k))) 64 64] w1 (fun e w1 => e = .returned (.bool true) ∧ Hp w0 (HB (k + 1)) w1)) (hw : Hp w0 (HB 0) w) :
    Calls Tryd.prog 157 #[.func (.yield l) #[] #[], .pointer (some ⟨bs, 0, none⟩), .pointer (some ⟨bn, 0, none⟩)] w (Ret w0 (fun _ H => H = HB N)) := by
  refine enterAt (vs := [.func (.yield l) #[] #[], .pointer (some ⟨bs, 0, none⟩), .pointer (some ⟨bn, 0, none⟩)]) Tryd.func157 rfl Tryd.ntmps157 rfl hw ?_
  refine JC.seq ?_
  -- region 0
  refine JC.region ?_
  refine JL.val rfl rfl rfl (.none rfl) (Ev.assign rfl) ?_
  refine JL.nil ?_
  refine JQ.thenN ?_
  refine JC.block ?_
  refine JC.loop (X := Nat)
    (fun k => [(0, .func (.yield l) #[] #[]), (1, .pointer (some ⟨bs, 0, none⟩)), (2, .pointer (some ⟨bn, 0, none⟩)), (4, .int .i64 (64 * (k : Int)))])
    (fun k => HB k)
    (fun k => k ≤ N)
    (fun k => N - k) 0 ?_ ?_ ?_ ?_
  · exact Keeps.get (by repeat (first | exact Keeps.nil | refine Keeps.cons rfl ?_))
  · exact Sub.all
  · omega
  rintro k hkN
  refine JC.seq ?_
  refine JC.seq ?_
  -- region 1
  refine JC.region ?_
  refine JL.val rfl rfl rfl (.none rfl) (Ev.move rfl) ?_
  refine JL.val rfl rfl rfl (.none rfl) (Ev.load1 rfl Tryd.underlying28 rfl (Rd.own (hs k) rfl)) ?_
  refine JL.val rfl rfl rfl (.none rfl) (Ev.lenS rfl Tryd.underlying28) ?_
  refine JL.val rfl rfl rfl (.none rfl) (Ev.bin rfl rfl lss_int) ?_
  refine JL.nil ?_
  refine JQ.thenN ?_
  refine JC.cond rfl (fun hc1 => ?_) (fun hc1 => ?_)
  · -- t9 True
    replace hc1 := of_decide_eq_true hc1
    have hk1 : k < N := by omega
    refine JC.skip ?_
    refine JQ.thenN ?_
    refine JC.seq ?_
    refine JC.block ?_
    refine JC.seq ?_
    -- region 3
    refine JC.regionQ (by kernel_rfl) (by kernel_rfl) ?_
    refine JW.val rfl rfl (.none rfl) (Ev.load1 rfl Tryd.underlying3 rfl (Rd.own (hn k) rfl)) ?_
    refine JW.val rfl rfl (.none rfl) (Ev.load1 rfl Tryd.underlying28 rfl (Rd.own (hs k) rfl)) ?_
    refine JW.val rfl rfl (.none rfl) (Ev.move rfl) ?_
    refine JW.val rfl rfl (.none rfl) (Ev.sliceLo rfl rfl Tryd.underlying28 Tryd.sizeOf5 (l := 64 * k) (by omega) (by omega)) ?_
    refine JW.re (d := 16) rfl (sub3_some (by omega)) ?_
    refine JW.val rfl rfl (.none rfl) (Ev.lenS rfl Tryd.underlying28) ?_
    refine JW.val rfl rfl (.none rfl) (Ev.min2 rfl rfl) ?_
    refine JW.re (d := 18) (v' := .int .i64 64) rfl (congrArg (Value.int .i64) (by omega)) ?_
    refine JW.val rfl rfl (.none rfl) (Ev.assign rfl) ?_
    refine JW.nilQ ?_
    refine JQ.thenN ?_
    refine JC.seq ?_
    -- region 4
    refine JC.region ?_
    refine JL.val rfl rfl rfl (.none rfl) (Ev.move rfl) ?_
    refine JL.val rfl rfl rfl (.none rfl) (Ev.load1 rfl Tryd.underlying28 rfl (Rd.own (hs k) rfl)) ?_
    refine JL.val rfl rfl rfl (.none rfl) (Ev.move rfl) ?_
    refine JL.val rfl rfl rfl (.none rfl) (Ev.move rfl) ?_
    refine JL.val rfl rfl rfl (.none rfl) (Ev.move rfl) ?_
    refine JL.val rfl rfl rfl (.none rfl) (Ev.bin rfl rfl (add_i64 (by omega))) ?_
    refine JL.val rfl rfl rfl (.none rfl) (Ev.move rfl) ?_
    refine JL.val rfl rfl rfl (.none rfl) (Ev.move rfl) ?_
    refine JL.val rfl rfl rfl (.none rfl) (Ev.bin rfl rfl (add_i64 (by omega))) ?_
    refine JL.val rfl rfl rfl (.none rfl) (Ev.sliceLHM rfl rfl rfl rfl Tryd.underlying28 Tryd.sizeOf5 (l := 64 * k) (h := 64 * k + 64) (m := 64 * k + 64) (by omega) (by omega) (by omega) (by omega) (by omega) (by omega)) ?_
    refine JL.re (d := 28) (v' := .slice (some (a.add (64 * k))) 64 64) rfl ((sub3_some (by omega)).trans (by congr 1 <;> omega)) ?_
    refine JL.yield rfl rfl (.none rfl) rfl rfl (fun w1 hw1 => hy k hk1 w1 hw1) ?_
    refine JL.val rfl rfl rfl (.none rfl) (Ev.not rfl) ?_
    refine JL.nil ?_
    refine JQ.thenN ?_
    refine JC.condF rfl ?_
    refine JC.skip ?_
    refine JQ.blockN ?_
    refine JQ.thenN ?_
    -- region 2
    refine JC.region ?_
    refine JL.val rfl rfl rfl (.none rfl) (Ev.move rfl) ?_
    refine JL.val rfl rfl rfl (.none rfl) (Ev.load1 rfl Tryd.underlying3 rfl (Rd.own (hn _) rfl)) ?_
    refine JL.val rfl rfl rfl (.none rfl) (Ev.bin rfl rfl (add_i64 (by omega))) ?_
    refine JL.val rfl rfl rfl (.none rfl) (Ev.assign rfl) ?_
    refine JL.nil ?_
    refine JQ.re (d := 4) (v' := .int .i64 (64 * ((k + 1 : Nat) : Int))) rfl (congrArg (Value.int .i64) (by omega)) ?_
    refine JQ.loopN (k + 1) ?_ ?_ ?_ ?_
    · exact Keeps.get (by repeat (first | exact Keeps.nil | refine Keeps.cons rfl ?_))
    · exact Sub.all
    · omega
    · omega
  · -- t9 False
    replace hc1 := of_decide_eq_false hc1
    obtain rfl : k = N := by omega
    refine JC.exit ?_
    refine JQ.thenE ?_
    refine JQ.thenE ?_
    refine JQ.blockE ?_
    refine JQ.end0 (H' := (HB k)) (.inr rfl) rfl  ?_ ?_
    · exact Sub.all
    · exact rfl

theorem sum_any (oa : Option Addr) (cap : Nat) (l : List UInt8) (w : World) (hb : Bs w oa cap l) (hl : l.length ≤ 1000000) (hk : KMem 1 w) (hf : FMem 0 w) :
    Calls Tryd.prog 108 #[.slice oa l.length cap] w (Ret w (fun v _ => v = .agg (arr8 (sha l)))) := by
  refine enterM (vs := [.slice oa l.length cap]) Tryd.func108 rfl Tryd.ntmps108 rfl ?_
  refine JC.seq ?_
  -- region 0
  refine JC.region ?_
  refine JL.new rfl rfl rfl (.none rfl) (En.allocZ (cs := arr8 (List.replicate 32 0)) Tryd.zeroValue33 rfl) (fun b2 hb2 => ?_)
  refine JL.nil ?_
  refine JQ.reH (o' := .cells (arr8 (List.replicate 32 0)) 33 (0, 0)) .here rfl ?_
  refine JQ.thenN ?_
  refine JC.seq ?_
  -- region 1
  refine JC.region ?_
  refine JL.val rfl rfl rfl (.none rfl) (Ev.loadA (a := ⟨0, 0, none⟩) (l := st0.l.map u32) rfl Tryd.underlying192 rfl Tryd.sizeOf192 (Rds.old hf) rfl) ?_
  refine JL.new rfl rfl rfl (.none rfl) (En.allocZ (cs := arr32 (List.replicate 8 0)) Tryd.zeroValue192 rfl) (fun b3 hb3 => ?_)
  refine JL.sto rfl rfl (.none rfl) (Es.storeA rfl rfl Tryd.sizeOf192 (by repeat (first | exact .here | apply Upd.there | apply Upd.left)) (by first | rfl | exact dig_size _ | (rw [arr8_size]; first | exact sha_length _ | exact shaO_length _ | assumption)) (by first | rfl | exact dig_size _ | (rw [arr8_size]; first | exact sha_length _ | exact shaO_length _ | assumption)) (arr32_one st0.l)) ?_
  refine JL.nil ?_
  refine JQ.thenN ?_
  refine JC.seq ?_
  refine JC.seq ?_
  -- region 2
  refine JC.region ?_
  refine JL.val rfl rfl rfl (.none rfl) (Ev.move rfl) ?_
  refine JL.callN rfl (.none rfl) rfl Tryd.call137 (fun w1 hw1 => padded_any oa cap l w1 (hb.old hw1) hl) ?_
  rintro _ _ ⟨r0, rfl, rfl, hr0⟩
  refine JL.callN rfl (.none rfl) rfl Tryd.call136 (fun w1 hw1 => chunk_any (some ⟨r0.g, 0, none⟩) (pad l).length r0.cap w1) ?_
  rintro _ _ ⟨bs, bn, rfl, rfl⟩
  refine JL.nil ?_
  refine JQ.thenN ?_
  refine JC.block ?_
  have hN : 64 * ((pad l).length / 64) = (pad l).length := by have := pad_mod l; omega
  have hmx : (pad l).length ≤ 9007199254740992 := by have := pad_length l; have : zeros l.length < 64 := by { unfold zeros; omega }; omega
  have hcp : (pad l).length ≤ r0.cap := hr0.2.1
  refine JC.range ((pad l).length / 64) (fun k E => (bn, .cells #[.int .i64 64] 3 (0, 0)) :: (bs, .cells #[.slice (some ⟨r0.g, 0, none⟩) (pad l).length r0.cap] 28 (0, 0)) :: (r0.g, .cells r0.cs 5 (0, 0)) :: (b3, .cells (arr32 (foldB (pad l) st0 (k)).l) 192 (0, 0)) :: (b2, .cells (arr8 (List.replicate 32 0)) 33 (0, 0)) :: E) (fun k => .slice (some ((⟨r0.g, 0, none⟩ : Addr).add (64 * k))) 64 64) (fun k => [(2, .pointer (some ⟨b2, 0, none⟩)), (3, .pointer (some ⟨b3, 0, none⟩)), (4, .slice (some ((⟨r0.g, 0, none⟩ : Addr).add (64 * k))) 64 64)]) (fun _ _ => rfl) rfl Tryd.call157 ?_ rfl ?_ ?_ ?_ ?_
  · first | exact Sub.all | exact Sub.of_cnt (fun a => by (try dsimp only); simp only [cntA]; omega) | repeat (first | exact Sub.nil | refine Sub.cons (by first | exact .here | exact .there .here | exact .there (.there .here) | exact .there (.there (.there .here)) | exact .there (.there (.there (.there .here)))) ?_ | exact Sub.all)
  · intro lr E w1 hw1 hy1
    exact chunkIter_any w w1 lr bs bn _ r0.cap _ (fun k => (bn, .cells #[.int .i64 64] 3 (0, 0)) :: (bs, .cells #[.slice (some ⟨r0.g, 0, none⟩) (pad l).length r0.cap] 28 (0, 0)) :: (r0.g, .cells r0.cs 5 (0, 0)) :: (b3, .cells (arr32 (foldB (pad l) st0 (k)).l) 192 (0, 0)) :: (b2, .cells (arr8 (List.replicate 32 0)) 33 (0, 0)) :: E) (fun k => by rw [hN]; exact .tail _ (.head _)) (fun k => .head _) (by omega) (by omega) hy1 hw1
  · intro lr k E hkN
    -- region 3
    refine JC.region ?_
    refine JL.val rfl rfl rfl (.none rfl) (Ev.assign rfl) ?_
    refine JL.nil ?_
    refine JQ.asg ?_
    exact Keeps.get (by repeat (first | exact Keeps.nil | refine Keeps.cons rfl ?_))
  · intro lr k E hkN
    refine JC.block ?_
    -- region 4
    refine JC.region ?_
    refine JL.val rfl rfl rfl (.none rfl) (Ev.loadB rfl (by repeat (first | exact List.Mem.head _ | refine List.Mem.tail _ ?_ | refine List.mem_append_right _ ?_ | assumption)) Tryd.underlying192 rfl Tryd.sizeOf192 (by first | rfl | exact dig_size _ | (rw [arr8_size]; first | exact sha_length _ | exact shaO_length _ | assumption))) ?_
    refine JL.val rfl rfl rfl (.none rfl) (Ev.move rfl) ?_
    refine JL.callV rfl (.none rfl) rfl Tryd.call138 (fun w1 hw1 => (step_any (foldB (pad l) st0 k) ((⟨r0.g, 0, none⟩ : Addr).add (64 * k)) 64 (((pad l).drop (64 * k)).take 64) w1 (hk.old hw1) (BMem.cut (mem_of_row hw1 (.tail _ (.tail _ (.head _))) hr0) _ _) (by simp; omega) (Nat.le_refl _))) ?_
    refine JL.sto rfl rfl (.none rfl) (Es.storeA rfl rfl Tryd.sizeOf192 (by repeat (first | exact .here | apply Upd.there | apply Upd.left)) (by first | rfl | exact dig_size _ | (rw [arr8_size]; first | exact sha_length _ | exact shaO_length _ | assumption)) (by first | rfl | exact dig_size _ | (rw [arr8_size]; first | exact sha_length _ | exact shaO_length _ | assumption)) (arr32_one _)) ?_
    refine JL.nil ?_
    refine JQ.blockN ?_
    refine JQ.bod ?_
    first | exact Sub.all | exact Sub.of_cnt (fun a => by (try dsimp only); simp only [cntA]; omega) | repeat (first | exact Sub.nil | refine Sub.cons (by first | exact .here | exact .there .here | exact .there (.there .here) | exact .there (.there (.there .here)) | exact .there (.there (.there (.there .here)))) ?_ | exact Sub.all)
  intro D E
  generalize hsd : foldB (pad l) st0 ((pad l).length / 64) = s
  refine JQ.blockN ?_
  refine JQ.thenN ?_
  refine JC.seq ?_
  refine JC.seq ?_
  -- region 5
  refine JC.region ?_
  refine JL.val rfl rfl rfl (.none rfl) (Ev.loadB rfl (by repeat (first | exact List.Mem.head _ | refine List.Mem.tail _ ?_ | refine List.mem_append_right _ ?_ | assumption)) Tryd.underlying192 rfl Tryd.sizeOf192 (by first | rfl | exact dig_size _ | (rw [arr8_size]; first | exact sha_length _ | exact shaO_length _ | assumption))) ?_
  refine JL.val rfl rfl rfl (.none rfl) (Ev.move rfl) ?_
  refine JL.nil ?_
  refine JQ.thenN ?_
  refine JC.block ?_
  refine JC.loop (X := Nat)
    (fun i => [(2, .pointer (some ⟨b2, 0, none⟩)), (15, .agg (arr32 s.l)), (16, .int .i64 (i : Int))])
    (fun i => [(b2, .cells (arr8 (outK s i)) 33 (0, 0)), (D, .deferred (some []))])
    (fun i => i ≤ 8)
    (fun i => 8 - i) 0 ?_ ?_ ?_ ?_
  · exact Keeps.get (by repeat (first | exact Keeps.nil | refine Keeps.cons rfl ?_))
  · first | exact Sub.all | exact Sub.of_cnt (fun a => by (try dsimp only); simp only [cntA]; omega) | repeat (first | exact Sub.nil | refine Sub.cons (by first | exact .here | exact .there .here | exact .there (.there .here) | exact .there (.there (.there .here)) | exact .there (.there (.there (.there .here)))) ?_ | exact Sub.all)
  · omega
  rintro i hi8
  refine JC.seq ?_
  -- region 6
  refine JC.region ?_
  refine JL.val rfl rfl rfl (.none rfl) (Ev.bin rfl rfl lss_int) ?_
  refine JL.nil ?_
  refine JQ.thenN ?_
  refine JC.seq ?_
  refine JC.cond rfl (fun hc1 => ?_) (fun hc1 => ?_)
  · -- t17 True
    replace hc1 := of_decide_eq_true hc1
    refine JC.skip ?_
    refine JQ.thenN ?_
    refine JC.seq ?_
    refine JC.block ?_
    refine JC.seq ?_
    -- region 7
    refine JC.region ?_
    refine JL.val rfl rfl rfl (.none rfl) (Ev.move rfl) ?_
    refine JL.val rfl rfl rfl (.none rfl) (Ev.index1 rfl rfl Tryd.underlying192 Tryd.sizeOf102 Tryd.underlying102 rfl (k := i) rfl (by omega) (stl_at s (by omega))) ?_
    refine JL.val rfl rfl rfl (.none rfl) (Ev.assign rfl) ?_
    refine JL.val rfl rfl rfl (.none rfl) (Ev.assign rfl) ?_
    refine JL.nil ?_
    refine JQ.thenN ?_
    -- region 8
    refine JC.region ?_
    refine JL.val rfl rfl rfl (.none rfl) (Ev.move rfl) ?_
    refine JL.val rfl rfl rfl (.none rfl) (Ev.bin rfl rfl (mul_i64 (by omega))) ?_
    refine JL.val rfl rfl rfl (.none rfl) (Ev.sliceALo rfl rfl Tryd.underlying33 Tryd.sizeOf5 (l := 4 * i) (by omega) (by omega)) ?_
    refine JL.re (d := 22) (v' := .slice (some ⟨b2, 4 * i, none⟩) (32 - 4 * i) (32 - 4 * i)) rfl (by rw [add_lit]; congr 3; omega) ?_
    refine JL.val rfl rfl rfl (.none rfl) (Ev.move rfl) ?_
    refine JL.val rfl rfl rfl (.none rfl) (Ev.bin rfl rfl (shr_u32 (n := 24) (by decide))) ?_
    refine JL.val rfl rfl rfl (.none rfl) (Ev.conv rfl (conv_u32_u8 Tryd.underlying102 Tryd.underlying5)) ?_
    refine JL.val rfl rfl rfl (.none rfl) (Ev.move rfl) ?_
    refine JL.val rfl rfl rfl (.none rfl) (Ev.bin rfl rfl (shr_u32 (n := 16) (by decide))) ?_
    refine JL.val rfl rfl rfl (.none rfl) (Ev.conv rfl (conv_u32_u8 Tryd.underlying102 Tryd.underlying5)) ?_
    refine JL.val rfl rfl rfl (.none rfl) (Ev.move rfl) ?_
    refine JL.val rfl rfl rfl (.none rfl) (Ev.bin rfl rfl (shr_u32 (n := 8) (by decide))) ?_
    refine JL.val rfl rfl rfl (.none rfl) (Ev.conv rfl (conv_u32_u8 Tryd.underlying102 Tryd.underlying5)) ?_
    refine JL.val rfl rfl rfl (.none rfl) (Ev.move rfl) ?_
    refine JL.val rfl rfl rfl (.none rfl) (Ev.conv rfl (conv_u32_u8 Tryd.underlying102 Tryd.underlying5)) ?_
    refine JL.new rfl rfl rfl (.none rfl) (En.bsN (e := 5) rfl (fun _ => by kernel_rfl)) (fun b34 hb34 => ?_)
    refine JL.gen rfl rfl rfl (.none rfl) (Eg.copy (b := b2) (n := 4) (o := 4 * i) (l := (four (s.l.getD i 0)).map u8) rfl rfl Tryd.underlying28 Tryd.sizeOf5 (by repeat (first | exact .here | apply Upd.there | apply Upd.left)) (by show 4 = Nat.min 4 (32 - 4 * i); have : Nat.min 4 (32 - 4 * i) = min 4 (32 - 4 * i) := rfl; omega) rfl (Rds.own (by repeat (first | exact List.Mem.head _ | refine List.Mem.tail _ ?_ | refine List.mem_append_right _ ?_ | assumption)) (fun j v hj => by rw [Nat.zero_add, ← hj]; simp [four])) (by rw [arr8_size, outK_length _ (by omega)]; omega) (u8s_one _)) ?_
    rintro _ _ ⟨rfl, rfl⟩
    refine JL.reH (o' := .cells (arr8 (outK s (i + 1))) 33 (0, 0)) (.there .here) (congrArg (fun c => Obj.cells c 33 (0, 0)) (outK_over s (i := i) (by omega))) ?_
    refine JL.nil ?_
    refine JQ.blockN ?_
    refine JQ.thenN ?_
    -- region 9
    refine JC.region ?_
    refine JL.val rfl rfl rfl (.none rfl) (Ev.bin rfl rfl (add_i64 (by omega))) ?_
    refine JL.val rfl rfl rfl (.none rfl) (Ev.move rfl) ?_
    refine JL.nil ?_
    refine JQ.loopN (i + 1) ?_ ?_ ?_ ?_
    · exact Keeps.get (by repeat (first | exact Keeps.nil | refine Keeps.cons rfl ?_))
    · first | exact Sub.all | exact Sub.of_cnt (fun a => by (try dsimp only); simp only [cntA]; omega) | repeat (first | exact Sub.nil | refine Sub.cons (by first | exact .here | exact .there .here | exact .there (.there .here) | exact .there (.there (.there .here)) | exact .there (.there (.there (.there .here)))) ?_ | exact Sub.all)
    · omega
    · omega
  · -- t17 False
    replace hc1 := of_decide_eq_false hc1
    refine JC.exit ?_
    refine JQ.thenE ?_
    refine JQ.thenE ?_
    refine JQ.blockE ?_
    refine JQ.thenN ?_
    refine JC.seq ?_
    -- region 10
    refine JC.region ?_
    obtain rfl : i = 8 := by omega
    refine JL.val rfl rfl rfl (.none rfl) (Ev.loadB rfl (by repeat (first | exact List.Mem.head _ | refine List.Mem.tail _ ?_ | refine List.mem_append_right _ ?_ | assumption)) Tryd.underlying33 rfl Tryd.sizeOf33 (by rw [arr8_size, outK_length _ (by omega)])) ?_
    refine JL.sto rfl rfl (.none rfl) (Es.storeA rfl rfl Tryd.sizeOf33 (by repeat (first | exact .here | apply Upd.there | apply Upd.left)) (by first | rfl | exact dig_size _ | (rw [arr8_size]; first | exact sha_length _ | exact shaO_length _ | assumption)) (by first | rfl | exact dig_size _ | (rw [arr8_size]; first | exact sha_length _ | exact shaO_length _ | assumption)) (arr8_one _)) ?_
    refine JL.nil ?_
    refine JQ.thenN ?_
    refine JC.ret ?_
    refine JQ.endM1 (H' := []) (.inl rfl) rfl (by repeat (first | exact List.Mem.head _ | refine List.Mem.tail _ ?_ | refine List.mem_append_right _ ?_ | assumption)) ⟨_, (by repeat (first | exact .here | apply Upd.there | apply Upd.left)), by first | exact Sub.all | exact Sub.of_cnt (fun a => by (try dsimp only); simp only [cntA]; omega) | repeat (first | exact Sub.nil | refine Sub.cons (by first | exact .here | exact .there .here | exact .there (.there .here) | exact .there (.there (.there .here)) | exact .there (.there (.there (.there .here)))) ?_ | exact Sub.all), (.agg rfl (by repeat (first | exact List.Mem.head _ | refine List.Mem.tail _ ?_ | refine List.mem_append_right _ ?_ | assumption)) Tryd.underlying33 rfl Tryd.sizeOf33 (by first | rfl | exact dig_size _ | (rw [arr8_size]; first | exact sha_length _ | exact shaO_length _ | assumption)))⟩ ?_
    · exact congrArg (fun c => Value.agg (arr8 c)) (by unfold sha; rw [hsd]; rfl)

theorem Sum_any (oa : Option Addr) (cap : Nat) (l : List UInt8) (w : World) (hb : Bs w oa cap l) (hl : l.length ≤ 1000000) (hk : KMem 1 w) (hf : FMem 0 w) :
    Calls Tryd.prog 66 #[.slice oa l.length cap] w (Ret w (fun v _ => v = .tuple #[.agg (arr8 (shaO l)), .int .i64 (if 8192 < l.length then 4 else 0)])) := by
  refine enter (vs := [.slice oa l.length cap]) Tryd.func66 rfl Tryd.ntmps66 rfl ?_
  refine JC.seq ?_
  -- region 0
  refine JC.region ?_
  refine JL.new rfl rfl rfl (.none rfl) (En.allocZ (cs := arr8 (List.replicate 32 0)) Tryd.zeroValue33 rfl) (fun b2 hb2 => ?_)
  refine JL.val rfl rfl rfl (.none rfl) (Ev.assign rfl) ?_
  refine JL.nil ?_
  refine JQ.thenN ?_
  refine JC.seq ?_
  refine JC.seq ?_
  -- region 1
  refine JC.region ?_
  refine JL.val rfl rfl rfl (.none rfl) (Ev.move rfl) ?_
  refine JL.val rfl rfl rfl (.none rfl) (Ev.lenS rfl Tryd.underlying28) ?_
  refine JL.val rfl rfl rfl (.none rfl) (Ev.bin rfl rfl gtr_int) ?_
  refine JL.nil ?_
  refine JQ.thenN ?_
  refine JC.cond rfl (fun hc1 => ?_) (fun hc1 => ?_)
  · -- t6 True
    replace hc1 := of_decide_eq_true hc1
    have hc : 8192 < l.length := by omega
    refine JC.seq ?_
    -- region 2
    refine JC.region ?_
    refine JL.val rfl rfl rfl (.none rfl) (Ev.bu0 Tryd.underlying33 Tryd.sizeOf5 Tryd.zeroValue33) ?_
    refine JL.sto rfl rfl (.none rfl) (Es.storeA rfl rfl Tryd.sizeOf33 (by repeat (first | exact .here | apply Upd.there | apply Upd.left)) (by first | rfl | exact dig_size _ | (rw [arr8_size]; first | exact sha_length _ | exact shaO_length _ | assumption)) (by first | rfl | exact dig_size _ | (rw [arr8_size]; first | exact sha_length _ | exact shaO_length _ | assumption)) (by intro u hu; exact arr8_one (List.replicate 32 0) u hu)) ?_
    refine JL.val rfl rfl rfl (.none rfl) (Ev.assign rfl) ?_
    refine JL.nil ?_
    refine JQ.thenN ?_
    refine JC.ret ?_
    refine JQ.thenR ?_
    refine JQ.end2 (H' := []) (.inl rfl) rfl (.agg rfl (by repeat (first | exact List.Mem.head _ | refine List.Mem.tail _ ?_ | refine List.mem_append_right _ ?_ | assumption)) Tryd.underlying33 rfl Tryd.sizeOf33 (by first | rfl | exact dig_size _ | (rw [arr8_size]; first | exact sha_length _ | exact shaO_length _ | assumption))) (.tmp rfl) ?_ ?_
    · first | exact Sub.all | exact Sub.of_cnt (fun a => by (try dsimp only); simp only [cntA]; omega) | repeat (first | exact Sub.nil | refine Sub.cons (by first | exact .here | exact .there .here | exact .there (.there .here) | exact .there (.there (.there .here)) | exact .there (.there (.there (.there .here)))) ?_ | exact Sub.all)
    · rw [shaO_big hc, if_pos hc]; rfl
  · -- t6 False
    replace hc1 := of_decide_eq_false hc1
    have hc : ¬ 8192 < l.length := by omega
    refine JC.skip ?_
    refine JQ.thenN ?_
    refine JC.seq ?_
    -- region 3
    refine JC.region ?_
    refine JL.val rfl rfl rfl (.none rfl) (Ev.move rfl) ?_
    refine JL.callV rfl (.none rfl) rfl Tryd.call108 (fun w1 hw1 => sum_any oa cap l w1 (hb.old hw1) hl (hk.old hw1) (hf.old hw1)) ?_
    refine JL.sto rfl rfl (.none rfl) (Es.storeA rfl rfl Tryd.sizeOf33 (by repeat (first | exact .here | apply Upd.there | apply Upd.left)) (by first | rfl | exact dig_size _ | (rw [arr8_size]; first | exact sha_length _ | exact shaO_length _ | assumption)) (by first | rfl | exact dig_size _ | (rw [arr8_size]; first | exact sha_length _ | exact shaO_length _ | assumption)) (arr8_one (sha l))) ?_
    refine JL.val rfl rfl rfl (.none rfl) (Ev.assign rfl) ?_
    refine JL.nil ?_
    refine JQ.thenN ?_
    refine JC.ret ?_
    refine JQ.end2 (H' := []) (.inl rfl) rfl (.agg rfl (by repeat (first | exact List.Mem.head _ | refine List.Mem.tail _ ?_ | refine List.mem_append_right _ ?_ | assumption)) Tryd.underlying33 rfl Tryd.sizeOf33 (by first | rfl | exact dig_size _ | (rw [arr8_size]; first | exact sha_length _ | exact shaO_length _ | assumption))) (.tmp rfl) ?_ ?_
    · first | exact Sub.all | exact Sub.of_cnt (fun a => by (try dsimp only); simp only [cntA]; omega) | repeat (first | exact Sub.nil | refine Sub.cons (by first | exact .here | exact .there .here | exact .there (.there .here) | exact .there (.there (.there .here)) | exact .there (.there (.there (.there .here)))) ?_ | exact Sub.all)
    · rw [shaO_small hc, if_neg hc]

end Go.Proofs.YtopaednfjjjnbaaDoor
namespace Go.Proofs.YtopaednfjjjnbaaDoor
open Go Go.RowKit
set_option maxRecDepth 100000

def outP (s : St) (i : Nat) : List UInt8 := (outBytes s).take i ++ List.replicate (32 - i) 0
theorem shaO_length (l : List UInt8) : (shaO l).length = 32 := by unfold shaO; split <;> rfl

end Go.Proofs.YtopaednfjjjnbaaDoor
namespace Go.Proofs.YtopaednfjjjnbaaDoor
open Go Go.RowKit
set_option maxRecDepth 100000

theorem bs_of_row {w0 w : World} {H : Blocks} {e : TypeId} {n : Nat} {r : Row} {l : List UInt8} {xs : List Value} (hw : Hp w0 H w) (hm : (r.g, Obj.cells r.cs e (0, 0)) ∈ H) (hr : Row.ok 1 n xs (some r)) (hn : n = l.length) (hx : xs = l.map u8 := by first | rfl | simp) :
    Bs w (some ⟨r.g, 0, none⟩) r.cap l := by
  subst hx
  subst hn
  exact ⟨hr.2.1, hr.2.2.1, fun h => (by cases h), fun a ha => by cases ha; exact mem_of_row hw hm hr⟩
theorem lim_succ (l : List UInt8) : (if 8192 < (0 :: l).length then (4 : Int) else 0) = if 8191 < l.length then 4 else 0 := by
  by_cases h : 8191 < l.length
  · rw [if_pos h, if_pos (by simp; omega)]
  · rw [if_neg h, if_neg (by simp; omega)]

theorem Leaf_any (oa : Option Addr) (cap : Nat) (l : List UInt8) (w : World) (hb : Bs w oa cap l) (hl : l.length ≤ 900000) (hk : KMem 1 w) (hf : FMem 0 w) :
    Calls Tryd.prog 67 #[.slice oa l.length cap] w (Ret w (fun v _ => v = .tuple #[.agg (arr8 (shaO (0 :: l))), .int .i64 (if 8191 < l.length then 4 else 0)])) := by
  refine enter (vs := [.slice oa l.length cap]) Tryd.func67 rfl Tryd.ntmps67 rfl ?_
  refine JC.seq ?_
  -- region 0
  refine JC.region ?_
  refine JL.new rfl rfl rfl (.none rfl) (En.allocZ (cs := arr8 (List.replicate 32 0)) Tryd.zeroValue33 rfl) (fun b2 hb2 => ?_)
  refine JL.val rfl rfl rfl (.none rfl) (Ev.assign rfl) ?_
  refine JL.nil ?_
  refine JQ.thenN ?_
  refine JC.seq ?_
  -- region 1
  refine JC.region ?_
  refine JL.new rfl rfl rfl (.none rfl) (En.bsN (e := 5) rfl (fun _ => by kernel_rfl)) (fun b4 hb4 => ?_)
  refine JL.val rfl rfl rfl (.none rfl) (Ev.move rfl) ?_
  refine JL.gen rfl rfl rfl (.none rfl) (Eg.append (r := (some ⟨b4, 1, #[u8 0]⟩)) (n := 1) (m := l.length) (xs := [u8 0]) (news := (l.map u8)) (z := (.int .u8 0)) (s := 1) (bytes := 1) rfl rfl rfl (by repeat (first | exact .last | exact .here | apply Cut.past | apply Cut.there)) Tryd.underlying28 (by kernel_rfl) rfl (by decide) (by decide) ⟨rfl, by simp, by simp [maxLen], rfl, rfl⟩ (by simp) (fun a ha => Rds.old (hb.mem a ha)) (fun h => by have := hb.le; have := hb.empty h; omega) (u8s_one l) (by omega)) ?_
  rintro _ _ ⟨r1, rfl, rfl, hr1, hn1⟩
  obtain ⟨r1, rfl⟩ : ∃ r : Row, r1 = some r := by cases r1 with | none => exact absurd (hn1.1 rfl).1 (by simp) | some r => exact ⟨r, rfl⟩
  refine JL.re (d := 6) (v' := .slice (some ⟨r1.g, 0, none⟩) (0 :: l).length r1.cap) rfl (congrArg (fun n => Value.slice (some ⟨r1.g, 0, none⟩) n r1.cap) (by simp; try omega)) ?_
  refine JL.callV rfl (.none rfl) rfl Tryd.call66 (fun w1 hw1 => Sum_any (some ⟨r1.g, 0, none⟩) r1.cap (0 :: l) w1 (bs_of_row hw1 (by first | exact .tail _ (.head _) | exact .tail _ (.tail _ (.head _)) | exact .tail _ (.tail _ (.tail _ (.head _))) | exact .tail _ (.tail _ (.tail _ (.tail _ (.head _))))  | exact .head _) hr1 (by simp; omega)) (by simp; omega) (hk.old hw1) (hf.old hw1)) ?_
  refine JL.val rfl rfl rfl (.none rfl) (Ev.ex0 rfl) ?_
  refine JL.val rfl rfl rfl (.none rfl) (Ev.ex1 rfl) ?_
  refine JL.sto rfl rfl (.none rfl) (Es.storeA rfl rfl Tryd.sizeOf33 (by repeat (first | exact .here | apply Upd.there | apply Upd.left)) (by rw [arr8_size, shaO_length]) (by first | rfl | exact dig_size _ | (rw [arr8_size]; first | exact sha_length _ | exact shaO_length _ | assumption)) (arr8_one _)) ?_
  refine JL.val rfl rfl rfl (.none rfl) (Ev.assign rfl) ?_
  refine JL.nil ?_
  refine JQ.thenN ?_
  refine JC.ret ?_
  refine JQ.end2 (H' := []) (.inl rfl) rfl (.agg rfl (by repeat (first | exact List.Mem.head _ | refine List.Mem.tail _ ?_ | refine List.mem_append_right _ ?_ | assumption)) Tryd.underlying33 rfl Tryd.sizeOf33 (by rw [arr8_size, shaO_length])) (.tmp rfl) ?_ ?_
  · first | exact Sub.all | exact Sub.of_cnt (fun a => by (try dsimp only); simp only [cntA]; omega) | repeat (first | exact Sub.nil | refine Sub.cons (by first | exact .here | exact .there .here | exact .there (.there .here) | exact .there (.there (.there .here)) | exact .there (.there (.there (.there .here)))) ?_ | exact Sub.all)
  · rw [lim_succ] <;> rfl

end Go.Proofs.YtopaednfjjjnbaaDoor
namespace Go.Proofs.YtopaednfjjjnbaaDoor
open Go Go.RowKit
set_option maxRecDepth 100000


theorem grow_any (n : Nat) (w : World) (hn : n ≤ 1000000) :
    Calls Tryd.prog 156 #[.slice none 0 0, .int .i64 (n : Int)] w (Ret w (fun v H => ∃ r : Option Row, v = Row.v 0 r ∧ H = Row.b 5 r ∧ Row.ok 1 0 [] r)) := by
  refine enter (vs := [.slice none 0 0, .int .i64 (n : Int)]) Tryd.func156 rfl Tryd.ntmps156 rfl ?_
  refine JC.seq ?_
  -- region 0
  refine JC.region ?_
  refine JL.val rfl rfl rfl (.none rfl) (Ev.assign rfl) ?_
  refine JL.nil ?_
  refine JQ.thenN ?_
  refine JC.seq ?_
  refine JC.seq ?_
  -- region 1
  refine JC.region ?_
  refine JL.val rfl rfl rfl (.none rfl) (Ev.move rfl) ?_
  refine JL.val rfl rfl rfl (.none rfl) (Ev.bin rfl rfl lss_int) ?_
  refine JL.nil ?_
  refine JQ.thenN ?_
  refine JC.knowF rfl ?_ ?_
  · exact decide_eq_false (by omega)
  refine JC.skip ?_
  refine JQ.thenN ?_
  refine JC.seq ?_
  refine JC.seq ?_
  -- region 3
  refine JC.region ?_
  refine JL.val rfl rfl rfl (.none rfl) (Ev.move rfl) ?_
  refine JL.val rfl rfl rfl (.none rfl) (Ev.move rfl) ?_
  refine JL.val rfl rfl rfl (.none rfl) (Ev.capS rfl Tryd.underlying28) ?_
  refine JL.val rfl rfl rfl (.none rfl) (Ev.move rfl) ?_
  refine JL.val rfl rfl rfl (.none rfl) (Ev.lenS rfl Tryd.underlying28) ?_
  refine JL.val rfl rfl rfl (.none rfl) (Ev.bin rfl rfl (sub_i64 (by omega))) ?_
  refine JL.val rfl rfl rfl (.none rfl) (Ev.bin rfl rfl (sub_i64 (by omega))) ?_
  refine JL.val rfl rfl rfl (.none rfl) (Ev.assign rfl) ?_
  refine JL.re (d := 1) (v' := .int .i64 (n : Int)) rfl (congrArg (Value.int .i64) (by omega)) ?_
  refine JL.nil ?_
  refine JQ.thenN ?_
  refine JC.seq ?_
  -- region 4
  refine JC.region ?_
  refine JL.val rfl rfl rfl (.none rfl) (Ev.move rfl) ?_
  refine JL.val rfl rfl rfl (.none rfl) (Ev.bin rfl rfl gtr_int) ?_
  refine JL.nil ?_
  refine JQ.thenN ?_
  refine JC.cond rfl (fun hc1 => ?_) (fun hc1 => ?_)
  · -- t16 True
    replace hc1 := of_decide_eq_true hc1
    -- region 5
    refine JC.region ?_
    refine JL.val rfl rfl rfl (.none rfl) (Ev.move rfl) ?_
    refine JL.val rfl rfl rfl (.none rfl) (Ev.move rfl) ?_
    refine JL.val rfl rfl rfl (.none rfl) (Ev.capS rfl Tryd.underlying28) ?_
    refine JL.val rfl rfl rfl (.none rfl) (Ev.sliceHi rfl rfl Tryd.underlying28 Tryd.sizeOf5 (h := 0) rfl (Nat.le_refl _)) ?_
    refine JL.re (d := 20) (v' := .slice none 0 0) rfl rfl ?_
    refine JL.val rfl rfl rfl (.none rfl) (Ev.move rfl) ?_
    refine JL.gen rfl rfl rfl (.none rfl) (Eg.appendZ (r := none) (n := 0) (k := n) (xs := []) (z := (.int .u8 0)) (bytes := 1) rfl rfl rfl (.last) Tryd.underlying28 Tryd.underlying3 (by kernel_rfl) rfl rfl (by decide) ⟨rfl, rfl⟩ (by omega)) ?_
    rintro _ _ ⟨r1, rfl, rfl, hr1, hn1⟩
    obtain ⟨r1, rfl⟩ : ∃ r : Row, r1 = some r := by cases r1 with | none => have := (hn1.1 rfl).2; omega | some r => exact ⟨r, rfl⟩
    refine JL.val rfl rfl rfl (.none rfl) (Ev.move rfl) ?_
    refine JL.val rfl rfl rfl (.none rfl) (Ev.lenS rfl Tryd.underlying28) ?_
    refine JL.val rfl rfl rfl (.none rfl) (Ev.sliceHi rfl rfl Tryd.underlying28 Tryd.sizeOf5 (h := 0) rfl (Nat.zero_le _)) ?_
    refine JL.re (d := 25) (v' := Row.v 0 (some r1)) rfl sub3_zero ?_
    refine JL.val rfl rfl rfl (.none rfl) (Ev.assign rfl) ?_
    refine JL.nil ?_
    refine JQ.thenN ?_
    refine JC.seq ?_
    -- region 6
    refine JC.region ?_
    refine JL.val rfl rfl rfl (.none rfl) (Ev.move rfl) ?_
    refine JL.val rfl rfl rfl (.none rfl) (Ev.assign rfl) ?_
    refine JL.nil ?_
    refine JQ.thenN ?_
    refine JC.ret ?_
    refine JQ.end1 (H' := (Row.b 5 (some r1))) (.inl rfl) rfl (.tmp rfl) ?_ ?_
    · first | exact Sub.all | exact Sub.of_cnt (fun a => by (try dsimp only); simp only [cntA]; omega) | repeat (first | exact Sub.nil | refine Sub.cons (by first | exact .here | exact .there .here | exact .there (.there .here) | exact .there (.there (.there .here)) | exact .there (.there (.there (.there .here)))) ?_ | exact Sub.all)
    · exact ⟨some r1, rfl, rfl, rfl, Nat.zero_le _, hr1.2.2.1, hr1.2.2.2.1, rfl⟩
  · -- t16 False
    replace hc1 := of_decide_eq_false hc1
    refine JC.skip ?_
    refine JQ.thenN ?_
    refine JC.seq ?_
    -- region 6
    refine JC.region ?_
    refine JL.val rfl rfl rfl (.none rfl) (Ev.move rfl) ?_
    refine JL.val rfl rfl rfl (.none rfl) (Ev.assign rfl) ?_
    refine JL.nil ?_
    refine JQ.thenN ?_
    refine JC.ret ?_
    refine JQ.end1 (H' := []) (.inl rfl) rfl (.tmp rfl) ?_ ?_
    · first | exact Sub.all | exact Sub.of_cnt (fun a => by (try dsimp only); simp only [cntA]; omega) | repeat (first | exact Sub.nil | refine Sub.cons (by first | exact .here | exact .there .here | exact .there (.there .here) | exact .there (.there (.there .here)) | exact .there (.there (.there (.there .here)))) ?_ | exact Sub.all)
    · exact ⟨none, rfl, rfl, rfl, rfl⟩

theorem concat_any (a : Addr) (cap : Nat) (ps : List Part) (w : World) (hm : Mem w a (ps.map Part.v)) (hbs : ∀ p ∈ ps, Bs w p.o p.cap p.l) (hl : catLen ps ps.length ≤ 1000000) (hn : ps.length ≤ 1000000) :
    Calls Tryd.prog 130 #[.slice (some a) ps.length cap] w (Ret w (fun v H => ∃ r : Option Row, v = Row.v (catLen ps ps.length) r ∧ H = Row.b 5 r ∧ Row.ok 1 (catLen ps ps.length) ((ps.flatMap (·.l)).map u8) r)) := by
  refine enter (vs := [.slice (some a) ps.length cap]) Tryd.func130 rfl Tryd.ntmps130 rfl ?_
  refine JC.seq ?_
  -- region 0
  refine JC.region ?_
  refine JL.val rfl rfl rfl (.none rfl) (Ev.assign rfl) ?_
  refine JL.nil ?_
  refine JQ.thenN ?_
  refine JC.seq ?_
  -- region 1
  refine JC.region ?_
  refine JL.val rfl rfl rfl (.none rfl) (Ev.assign rfl) ?_
  refine JL.nil ?_
  refine JQ.thenN ?_
  refine JC.seq ?_
  refine JC.seq ?_
  -- region 2
  refine JC.region ?_
  refine JL.val rfl rfl rfl (.none rfl) (Ev.move rfl) ?_
  refine JL.val rfl rfl rfl (.none rfl) (Ev.lenS rfl Tryd.underlying211) ?_
  refine JL.val rfl rfl rfl (.none rfl) (Ev.move rfl) ?_
  refine JL.nil ?_
  refine JQ.thenN ?_
  refine JC.block ?_
  refine JC.loop (X := Nat)
    (fun k => [(0, .slice (some a) ps.length cap), (3, .int .i64 (catLen ps k : Int)), (9, .slice (some a) ps.length cap), (10, .int .i64 (ps.length : Int)), (11, .int .i64 (k : Int))])
    (fun k => [])
    (fun k => k ≤ ps.length)
    (fun k => ps.length - k) 0 ?_ ?_ ?_ ?_
  · exact Keeps.get (by repeat (first | exact Keeps.nil | refine Keeps.cons rfl ?_))
  · first | exact Sub.all | exact Sub.of_cnt (fun a => by (try dsimp only); simp only [cntA]; omega) | repeat (first | exact Sub.nil | refine Sub.cons (by first | exact .here | exact .there .here | exact .there (.there .here) | exact .there (.there (.there .here)) | exact .there (.there (.there (.there .here)))) ?_ | exact Sub.all)
  · exact Nat.zero_le _
  rintro k hkp
  refine JC.seq ?_
  -- region 3
  refine JC.region ?_
  refine JL.val rfl rfl rfl (.none rfl) (Ev.bin rfl rfl lss_int) ?_
  refine JL.nil ?_
  refine JQ.thenN ?_
  refine JC.seq ?_
  refine JC.cond rfl (fun hc1 => ?_) (fun hc1 => ?_)
  · -- t12 True
    replace hc1 := of_decide_eq_true hc1
    have hkn : k < ps.length := by omega
    obtain ⟨p, hp⟩ : ∃ p, ps[k]? = some p := ⟨ps[k], List.getElem?_eq_getElem hkn⟩
    have hpv : (ps.map Part.v)[k]? = some (.slice p.o p.l.length p.cap) := by rw [List.getElem?_map, hp]; rfl
    have hcs := catLen_succ ps hp
    have hcl := catLen_le ps (k + 1)
    refine JC.skip ?_
    refine JQ.thenN ?_
    refine JC.seq ?_
    refine JC.block ?_
    refine JC.seq ?_
    -- region 4
    refine JC.region ?_
    refine JL.val rfl rfl rfl (.none rfl) (Ev.idxS1 rfl rfl Tryd.underlying211 Tryd.sizeOf28 (k := k) rfl (by omega)) ?_
    refine JL.val rfl rfl rfl (.none rfl) (Ev.load1 rfl Tryd.underlying28 rfl (Rd.old (hm k _ hpv))) ?_
    refine JL.val rfl rfl rfl (.none rfl) (Ev.assign rfl) ?_
    refine JL.nil ?_
    refine JQ.thenN ?_
    refine JC.seq ?_
    -- region 5
    refine JC.region ?_
    refine JL.val rfl rfl rfl (.none rfl) (Ev.move rfl) ?_
    refine JL.val rfl rfl rfl (.none rfl) (Ev.move rfl) ?_
    refine JL.val rfl rfl rfl (.none rfl) (Ev.lenS rfl Tryd.underlying28) ?_
    refine JL.val rfl rfl rfl (.none rfl) (Ev.bin rfl rfl (add_i64 (by omega))) ?_
    refine JL.val rfl rfl rfl (.none rfl) (Ev.assign rfl) ?_
    refine JL.re (d := 3) (v' := .int .i64 (catLen ps (k + 1) : Int)) rfl (congrArg (Value.int .i64) (by omega)) ?_
    refine JL.nil ?_
    refine JQ.thenN ?_
    refine JC.seq ?_
    -- region 6
    refine JC.region ?_
    refine JL.val rfl rfl rfl (.none rfl) (Ev.move rfl) ?_
    refine JL.val rfl rfl rfl (.none rfl) (Ev.bin rfl rfl lss_int) ?_
    refine JL.nil ?_
    refine JQ.thenN ?_
    refine JC.knowF rfl ?_ ?_
    · exact decide_eq_false (by omega)
    refine JC.skip ?_
    refine JQ.blockN ?_
    refine JQ.thenN ?_
    -- region 8
    refine JC.region ?_
    refine JL.val rfl rfl rfl (.none rfl) (Ev.bin rfl rfl (add_i64 (by omega))) ?_
    refine JL.val rfl rfl rfl (.none rfl) (Ev.move rfl) ?_
    refine JL.nil ?_
    refine JQ.loopN (k + 1) ?_ ?_ ?_ ?_
    · exact Keeps.get (by repeat (first | exact Keeps.nil | refine Keeps.cons rfl ?_))
    · exact Sub.nil
    · omega
    · omega
  · -- t12 False
    replace hc1 := of_decide_eq_false hc1
    obtain rfl : k = ps.length := by omega
    refine JC.exit ?_
    refine JQ.thenE ?_
    refine JQ.thenE ?_
    refine JQ.blockE ?_
    refine JQ.thenN ?_
    refine JC.seq ?_
    -- region 9
    refine JC.region ?_
    refine JL.val rfl rfl rfl (.none rfl) (Ev.move rfl) ?_
    refine JL.callN rfl (.none rfl) rfl Tryd.call156 (fun w1 hw1 => grow_any (catLen ps ps.length) w1 hl) ?_
    rintro _ _ ⟨r0, rfl, rfl, hr0⟩
    refine JL.val rfl rfl rfl (.none rfl) (Ev.assign rfl) ?_
    refine JL.nil ?_
    refine JQ.thenN ?_
    refine JC.seq ?_
    refine JC.seq ?_
    -- region 10
    refine JC.region ?_
    refine JL.val rfl rfl rfl (.none rfl) (Ev.move rfl) ?_
    refine JL.val rfl rfl rfl (.none rfl) (Ev.lenS rfl Tryd.underlying211) ?_
    refine JL.val rfl rfl rfl (.none rfl) (Ev.move rfl) ?_
    refine JL.nil ?_
    refine JQ.thenN ?_
    refine JC.block ?_
    refine JC.loop (X := Nat × Option Row)
      (fun ⟨k, r⟩ => [(6, Row.v (catLen ps k) r), (25, .slice (some a) ps.length cap), (26, .int .i64 (ps.length : Int)), (27, .int .i64 (k : Int))])
      (fun ⟨k, r⟩ => Row.b 5 r)
      (fun ⟨k, r⟩ => k ≤ ps.length ∧ Row.ok 1 (catLen ps k) (((ps.take k).flatMap (·.l)).map u8) r)
      (fun ⟨k, r⟩ => ps.length - k) (0, r0) ?_ ?_ ?_ ?_
    · exact Keeps.get (by repeat (first | exact Keeps.nil | refine Keeps.cons rfl ?_))
    · first | exact Sub.all | exact sub_app_nil
    · exact ⟨Nat.zero_le _, hr0⟩
    rintro ⟨k, r⟩ ⟨hkp, hr⟩
    refine JC.seq ?_
    -- region 11
    refine JC.region ?_
    refine JL.val rfl rfl rfl (.none rfl) (Ev.bin rfl rfl lss_int) ?_
    refine JL.nil ?_
    refine JQ.thenN ?_
    refine JC.seq ?_
    refine JC.cond rfl (fun hc2 => ?_) (fun hc2 => ?_)
    · -- t28 True
      replace hc2 := of_decide_eq_true hc2
      have hkn : k < ps.length := by omega
      obtain ⟨p, hp⟩ : ∃ p, ps[k]? = some p := ⟨ps[k], List.getElem?_eq_getElem hkn⟩
      have hpv : (ps.map Part.v)[k]? = some (.slice p.o p.l.length p.cap) := by rw [List.getElem?_map, hp]; rfl
      have hcs := catLen_succ ps hp
      have hcl := catLen_le ps (k + 1)
      have hbp := hbs p (List.mem_of_getElem? hp)
      refine JC.skip ?_
      refine JQ.thenN ?_
      refine JC.seq ?_
      refine JC.block ?_
      refine JC.seq ?_
      -- region 12
      refine JC.region ?_
      refine JL.val rfl rfl rfl (.none rfl) (Ev.idxS1 rfl rfl Tryd.underlying211 Tryd.sizeOf28 (k := k) rfl (by omega)) ?_
      refine JL.val rfl rfl rfl (.none rfl) (Ev.load1 rfl Tryd.underlying28 rfl (Rd.old (hm k _ hpv))) ?_
      refine JL.val rfl rfl rfl (.none rfl) (Ev.assign rfl) ?_
      refine JL.nil ?_
      refine JQ.thenN ?_
      -- region 13
      refine JC.region ?_
      refine JL.val rfl rfl rfl (.none rfl) (Ev.move rfl) ?_
      refine JL.val rfl rfl rfl (.none rfl) (Ev.move rfl) ?_
      refine JL.gen rfl rfl rfl (.none rfl) (Eg.append (r := r) (n := (catLen ps k)) (m := p.l.length) (xs := (((ps.take k).flatMap (·.l)).map u8)) (news := (p.l.map u8)) (z := (.int .u8 0)) (s := 1) (bytes := 1) rfl rfl rfl (by repeat (first | exact .last | exact .here | apply Cut.past | apply Cut.there)) Tryd.underlying28 (by kernel_rfl) rfl (by decide) (by decide) hr (by simp) (fun ad had => Rds.old (hbp.mem ad had)) (fun h => by have := hbp.le; have := hbp.empty h; omega) (u8s_one _) (by omega)) ?_
      rintro _ _ ⟨r3, rfl, rfl, hr3, hn1⟩
      refine JL.val rfl rfl rfl (.none rfl) (Ev.assign rfl) ?_
      refine JL.nil ?_
      refine JQ.blockN ?_
      refine JQ.thenN ?_
      -- region 14
      refine JC.region ?_
      refine JL.val rfl rfl rfl (.none rfl) (Ev.bin rfl rfl (add_i64 (by omega))) ?_
      refine JL.val rfl rfl rfl (.none rfl) (Ev.move rfl) ?_
      refine JL.nil ?_
      refine JQ.re (d := 6) (v' := Row.v (catLen ps (k + 1)) r3) rfl (by rw [hcs]) ?_
      refine JQ.loopN (k + 1, r3) ?_ ?_ ?_ ?_
      · exact Keeps.get (by repeat (first | exact Keeps.nil | refine Keeps.cons rfl ?_))
      · first | exact Sub.all | exact sub_nil_app
      · exact ⟨by omega, by rw [hcs, List.take_add_one, hp]; simpa using hr3⟩
      · show ps.length - (k + 1) < ps.length - k; omega
    · -- t28 False
      replace hc2 := of_decide_eq_false hc2
      obtain rfl : k = ps.length := by omega
      refine JC.exit ?_
      refine JQ.thenE ?_
      refine JQ.thenE ?_
      refine JQ.blockE ?_
      refine JQ.thenN ?_
      refine JC.seq ?_
      -- region 15
      refine JC.region ?_
      refine JL.val rfl rfl rfl (.none rfl) (Ev.move rfl) ?_
      refine JL.val rfl rfl rfl (.none rfl) (Ev.assign rfl) ?_
      refine JL.nil ?_
      refine JQ.thenN ?_
      refine JC.ret ?_
      refine JQ.end1 (H' := (Row.b 5 r)) (.inl rfl) rfl (.tmp rfl) ?_ ?_
      · exact Sub.all
      · exact ⟨r, rfl, rfl, by rw [List.take_of_length_le (Nat.le_refl _)] at hr; exact hr⟩

theorem node_any (a b : List UInt8) (ha : a.length = 32) (hb : b.length = 32) (w : World) (hk : KMem 1 w) (hf : FMem 0 w) :
    Calls Tryd.prog 104 #[.agg (arr8 a), .agg (arr8 b)] w (Ret w (fun v _ => v = .agg (arr8 (sha (1 :: (a ++ b)))))) := by
  refine enter (vs := [.agg (arr8 a), .agg (arr8 b)]) Tryd.func104 rfl Tryd.ntmps104 rfl ?_
  refine JC.seq ?_
  -- region 0
  refine JC.region ?_
  refine JL.new rfl rfl rfl (.none rfl) (En.boxA rfl) (fun b2 hb2 => ?_)
  refine JL.new rfl rfl rfl (.none rfl) (En.boxA rfl) (fun b3 hb3 => ?_)
  refine JL.new rfl rfl rfl (.none rfl) (En.allocZ (cs := arr8 (List.replicate 32 0)) Tryd.zeroValue33 rfl) (fun b4 hb4 => ?_)
  refine JL.nil ?_
  refine JQ.thenN ?_
  refine JC.seq ?_
  -- region 1
  refine JC.regionA (by kernel_rfl) ?_
  refine JA.take 1 rfl rfl rfl rfl (by kernel_rfl) (by kernel_rfl) (by kernel_rfl) (fun _ _ _ h => h) (fun _ _ => rfl) (.none rfl) (fun _ => (Ev.sliceA rfl Tryd.underlying33 Tryd.sizeOf5)) ?_
  refine JA.take 2 rfl rfl rfl rfl (by kernel_rfl) (by kernel_rfl) (by kernel_rfl) (fun _ _ _ h => h) (fun _ _ => rfl) (.none rfl) (fun _ => (Ev.sliceA rfl Tryd.underlying33 Tryd.sizeOf5)) ?_
  refine JA.branch [0] (by kernel_rfl) rfl ?_
  refine JAll.cons rfl ?_ JAll.nil
  refine JO.new rfl rfl rfl (.none rfl) (En.bsN (e := 5) rfl (fun _ => by kernel_rfl)) (fun b5 hb5 => ?_)
  refine JA.branch [3] (by kernel_rfl) rfl ?_
  refine JAll.cons rfl ?_ JAll.nil
  refine JO.new rfl rfl rfl (.none rfl) (En.bsN (e := 28) rfl (fun _ => by kernel_rfl)) (fun b8 hb8 => ?_)
  refine JA.branch [4] (by kernel_rfl) rfl ?_
  refine JAll.cons rfl ?_ JAll.nil
  refine JO.callN rfl (.none rfl) rfl Tryd.call130 (fun w1 hw1 => concat_any ⟨b8, 0, none⟩ 3 [⟨some ⟨b5, 0, none⟩, 1, [1]⟩, ⟨some ⟨b2, 0, none⟩, a.length, a⟩, ⟨some ⟨b3, 0, none⟩, b.length, b⟩] w1 (by have h := Mem.own (o := 0) (l := [.slice (some ⟨b5, 0, none⟩) 1 1, .slice (some ⟨b2, 0, none⟩) 32 32, .slice (some ⟨b3, 0, none⟩) 32 32]) hw1 (.head _) (fun j v hj => by simpa using hj); simpa [Part.v, ha, hb] using h) (by intro p hp; simp only [List.mem_cons, List.not_mem_nil, or_false] at hp; rcases hp with rfl | rfl | rfl; exact bs_of_block (b := b5) (l := [1]) hw1 (by first | exact .head _ | exact .tail _ (.head _) | exact .tail _ (.tail _ (.head _)) | exact .tail _ (.tail _ (.tail _ (.head _))) | exact .tail _ (.tail _ (.tail _ (.tail _ (.head _)))) | exact List.mem_append_right _ (.head _)) (by decide); exact bs_of_block (b := b2) (l := a) hw1 (by first | exact .head _ | exact .tail _ (.head _) | exact .tail _ (.tail _ (.head _)) | exact .tail _ (.tail _ (.tail _ (.head _))) | exact .tail _ (.tail _ (.tail _ (.tail _ (.head _)))) | exact List.mem_append_right _ (.head _)) (by omega); exact bs_of_block (b := b3) (l := b) hw1 (by first | exact .head _ | exact .tail _ (.head _) | exact .tail _ (.tail _ (.head _)) | exact .tail _ (.tail _ (.tail _ (.head _))) | exact .tail _ (.tail _ (.tail _ (.tail _ (.head _)))) | exact List.mem_append_right _ (.head _)) (by omega)) (by simp [catLen, ha, hb]) (by simp)) ?_
  rintro _ _ ⟨r1, rfl, rfl, hr1⟩
  obtain ⟨r1, rfl⟩ : ∃ r : Row, r1 = some r := by cases r1 with | none => exact absurd hr1.1 (by simp [catLen, ha, hb]) | some r => exact ⟨r, rfl⟩
  refine JA.re (d := 9) (v' := .slice (some ⟨r1.g, 0, none⟩) (1 :: (a ++ b)).length r1.cap) rfl (congrArg (fun n => Value.slice (some ⟨r1.g, 0, none⟩) n r1.cap) (by simp [catLen, ha, hb])) ?_
  refine JA.branch [5] (by kernel_rfl) rfl ?_
  refine JAll.cons rfl ?_ JAll.nil
  refine JO.callV rfl (.none rfl) rfl Tryd.call108 (fun w1 hw1 => sum_any (some ⟨r1.g, 0, none⟩) r1.cap (1 :: (a ++ b)) w1 (bs_of_row hw1 (by first | exact .head _ | exact .tail _ (.head _) | exact .tail _ (.tail _ (.head _)) | exact .tail _ (.tail _ (.tail _ (.head _))) | exact .tail _ (.tail _ (.tail _ (.tail _ (.head _)))) | exact List.mem_append_right _ (.head _)) hr1 (by simp [catLen, ha, hb]) (by simp)) (by simp [ha, hb]) (hk.old hw1) (hf.old hw1)) ?_
  refine JA.branch [6] (by kernel_rfl) rfl ?_
  refine JAll.cons rfl ?_ JAll.nil
  refine JO.sto rfl rfl (.none rfl) (Es.storeA rfl rfl Tryd.sizeOf33 (by repeat (first | exact .here | apply Upd.there | apply Upd.left)) (by first | rw [arr8_size, sha_length] | rfl) (by first | rfl | exact dig_size _ | (rw [arr8_size]; first | exact sha_length _ | exact shaO_length _ | assumption)) (arr8_one _)) ?_
  refine JA.done (by kernel_rfl) ?_
  refine JQ.thenN ?_
  refine JC.ret ?_
  refine JQ.end1 (H' := []) (.inl rfl) rfl (.agg rfl (by repeat (first | exact List.Mem.head _ | refine List.Mem.tail _ ?_ | refine List.mem_append_right _ ?_ | assumption)) Tryd.underlying33 rfl Tryd.sizeOf33 (by first | rw [arr8_size, sha_length] | rfl)) ?_ ?_
  · first | exact Sub.all | exact Sub.of_cnt (fun a => by (try dsimp only); simp only [cntA]; omega) | repeat (first | exact Sub.nil | refine Sub.cons (by first | exact .here | exact .there .here | exact .there (.there .here) | exact .there (.there (.there .here)) | exact .there (.there (.there (.there .here)))) ?_ | exact Sub.all)
  · exact rfl

end Go.Proofs.YtopaednfjjjnbaaDoor
