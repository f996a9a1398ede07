/-
  The reference's digest: its words, its tables, a state after compressing a block.
-/
import Derived.Test.YtebinlinhmohbaaDoorProg
import Derived.Test.YtebinlinhmohbaaDoorShaMem
import Derived.KernelRfl
namespace Go.Proofs.YtebinlinhmohbaaDoor
open Go Go.RowKit
set_option maxRecDepth 100000

theorem rword_any (a : Addr) (n len cap : Nat) (l : List UInt8) (w : World) (hm : BMem w a l) (hl : l.length = len) (h4 : n + 4 ≤ len) (hmax : len ≤ 9223372036854775807) :
    Calls Tryd.prog 58 #[.slice (some a) len cap, .int .i64 (n : Int)] w (Ret w (fun v _ => v = u32 (beWord l n))) := by
  refine enter (vs := [.slice (some a) len cap, .int .i64 (n : Int)]) Tryd.func58 rfl Tryd.ntmps58 rfl ?_
  refine JC.seq ?_
  -- region 0
  refine JC.region ?_
  refine JL.val rfl rfl rfl (.none rfl) (Ev.assign rfl) ?_
  refine JL.nil ?_
  refine JQ.thenN ?_
  refine JC.seq ?_
  -- region 1
  refine JC.regionQ (by kernel_rfl) (by kernel_rfl) ?_
  refine JW.val rfl rfl (.none rfl) (Ev.move rfl) ?_
  refine JW.val rfl rfl (.none rfl) (Ev.move rfl) ?_
  refine JW.val rfl rfl (.none rfl) (Ev.idxS1 rfl rfl Tryd.underlying71 Tryd.sizeOf5 (k := n + 0) (by omega) (by omega)) ?_
  refine JW.val rfl rfl (.none rfl) (Ev.load1 rfl Tryd.underlying5 rfl (Rd.old (hm.at (k := n + 0) (by omega)))) ?_
  refine JW.val rfl rfl (.none rfl) (Ev.conv rfl (conv_u8_u32 Tryd.underlying5 Tryd.underlying77)) ?_
  refine JW.val rfl rfl (.none rfl) (Ev.bin rfl rfl (shl_u32 (n := 24) (by decide))) ?_
  refine JW.val rfl rfl (.none rfl) (Ev.move rfl) ?_
  refine JW.val rfl rfl (.none rfl) (Ev.move rfl) ?_
  refine JW.val rfl rfl (.none rfl) (Ev.bin rfl rfl (add_i64 (by omega))) ?_
  refine JW.val rfl rfl (.none rfl) (Ev.idxS1 rfl rfl Tryd.underlying71 Tryd.sizeOf5 (k := n + 1) (by omega) (by omega)) ?_
  refine JW.val rfl rfl (.none rfl) (Ev.load1 rfl Tryd.underlying5 rfl (Rd.old (hm.at (k := n + 1) (by omega)))) ?_
  refine JW.val rfl rfl (.none rfl) (Ev.conv rfl (conv_u8_u32 Tryd.underlying5 Tryd.underlying77)) ?_
  refine JW.val rfl rfl (.none rfl) (Ev.bin rfl rfl (shl_u32 (n := 16) (by decide))) ?_
  refine JW.val rfl rfl (.none rfl) (Ev.bin rfl rfl or_u32) ?_
  refine JW.val rfl rfl (.none rfl) (Ev.move rfl) ?_
  refine JW.val rfl rfl (.none rfl) (Ev.move rfl) ?_
  refine JW.val rfl rfl (.none rfl) (Ev.bin rfl rfl (add_i64 (by omega))) ?_
  refine JW.val rfl rfl (.none rfl) (Ev.idxS1 rfl rfl Tryd.underlying71 Tryd.sizeOf5 (k := n + 2) (by omega) (by omega)) ?_
  refine JW.val rfl rfl (.none rfl) (Ev.load1 rfl Tryd.underlying5 rfl (Rd.old (hm.at (k := n + 2) (by omega)))) ?_
  refine JW.val rfl rfl (.none rfl) (Ev.conv rfl (conv_u8_u32 Tryd.underlying5 Tryd.underlying77)) ?_
  refine JW.val rfl rfl (.none rfl) (Ev.bin rfl rfl (shl_u32 (n := 8) (by decide))) ?_
  refine JW.val rfl rfl (.none rfl) (Ev.bin rfl rfl or_u32) ?_
  refine JW.val rfl rfl (.none rfl) (Ev.move rfl) ?_
  refine JW.val rfl rfl (.none rfl) (Ev.move rfl) ?_
  refine JW.val rfl rfl (.none rfl) (Ev.bin rfl rfl (add_i64 (by omega))) ?_
  refine JW.val rfl rfl (.none rfl) (Ev.idxS1 rfl rfl Tryd.underlying71 Tryd.sizeOf5 (k := n + 3) (by omega) (by omega)) ?_
  refine JW.val rfl rfl (.none rfl) (Ev.load1 rfl Tryd.underlying5 rfl (Rd.old (hm.at (k := n + 3) (by omega)))) ?_
  refine JW.val rfl rfl (.none rfl) (Ev.conv rfl (conv_u8_u32 Tryd.underlying5 Tryd.underlying77)) ?_
  refine JW.val rfl rfl (.none rfl) (Ev.bin rfl rfl or_u32) ?_
  refine JW.val rfl rfl (.none rfl) (Ev.assign rfl) ?_
  refine JW.nilQ ?_
  refine JQ.thenN ?_
  refine JC.ret ?_
  refine JQ.end1 (H' := []) (.inl rfl) rfl (.tmp rfl) ?_ ?_
  · first | exact Sub.all | exact Sub.of_cnt (fun a => by (try dsimp only); simp only [cntA]; omega) | repeat (first | exact Sub.nil | refine Sub.cons (by first | exact .here | exact .there .here | exact .there (.there .here) | exact .there (.there (.there .here)) | exact .there (.there (.there (.there .here)))) ?_ | exact Sub.all)
  · exact rfl

theorem turned_any (x : UInt32) (n : Nat) (hn : 0 < n) (hn1 : n < 32) (w : World) :
    Calls Tryd.prog 59 #[u32 x, .int .i64 (n : Int)] w (Ret w (fun v _ => v = u32 (rotr x n))) := by
  refine enter (vs := [u32 x, .int .i64 (n : Int)]) Tryd.func59 rfl Tryd.ntmps59 rfl ?_
  refine JC.seq ?_
  -- region 0
  refine JC.region ?_
  refine JL.val rfl rfl rfl (.none rfl) (Ev.assign rfl) ?_
  refine JL.nil ?_
  refine JQ.thenN ?_
  refine JC.seq ?_
  -- region 1
  refine JC.regionQ (by kernel_rfl) (by kernel_rfl) ?_
  refine JW.val rfl rfl (.none rfl) (Ev.move rfl) ?_
  refine JW.val rfl rfl (.none rfl) (Ev.move rfl) ?_
  refine JW.val rfl rfl (.none rfl) (Ev.bin rfl rfl (shr_u32 (n := n) hn1)) ?_
  refine JW.val rfl rfl (.none rfl) (Ev.move rfl) ?_
  refine JW.val rfl rfl (.none rfl) (Ev.move rfl) ?_
  refine JW.val rfl rfl (.none rfl) (Ev.bin rfl rfl (sub_i64 (by omega))) ?_
  refine JW.re (d := 10) (v' := .int .i64 ((32 - n : Nat) : Int)) rfl (congrArg (Value.int .i64) (by omega)) ?_
  refine JW.val rfl rfl (.none rfl) (Ev.bin rfl rfl (shl_u32 (n := 32 - n) (by omega))) ?_
  refine JW.val rfl rfl (.none rfl) (Ev.bin rfl rfl or_u32) ?_
  refine JW.val rfl rfl (.none rfl) (Ev.assign rfl) ?_
  refine JW.nilQ ?_
  refine JQ.thenN ?_
  refine JC.ret ?_
  refine JQ.end1 (H' := []) (.inl rfl) rfl (.tmp rfl) ?_ ?_
  · first | exact Sub.all | exact Sub.of_cnt (fun a => by (try dsimp only); simp only [cntA]; omega) | repeat (first | exact Sub.nil | refine Sub.cons (by first | exact .here | exact .there .here | exact .there (.there .here) | exact .there (.there (.there .here)) | exact .there (.there (.there (.there .here)))) ?_ | exact Sub.all)
  · exact rfl

theorem rk_any (w : World) :
    Calls Tryd.prog 60 #[] w (Ret w (fun v _ => v = .agg (arr32 kTab))) := by
  refine enter (vs := []) Tryd.func60 rfl Tryd.ntmps60 rfl ?_
  refine JC.seq ?_
  -- region 0
  refine JC.region ?_
  refine JL.new rfl rfl rfl (.none rfl) (En.allocZ (cs := arr32 (List.replicate 64 0)) Tryd.zeroValue90 rfl) (fun b0 hb0 => ?_)
  refine JL.nil ?_
  refine JQ.thenN ?_
  refine JC.seq ?_
  -- region 1
  refine JC.region ?_
  refine JL.val rfl rfl rfl (.none rfl) (Ev.buN rfl (fun _ => by kernel_rfl)) ?_
  refine JL.sto rfl rfl (.none rfl) (Es.storeA rfl rfl Tryd.sizeOf90 (by repeat (first | exact .here | apply Upd.there | apply Upd.left)) (by first | rfl | exact dig_size _ | (rw [arr8_size]; first | exact sha_length _ | exact shaO_length _ | assumption)) (by first | rfl | exact dig_size _ | (rw [arr8_size]; first | exact sha_length _ | exact shaO_length _ | assumption)) (arr32_one kTab)) ?_
  refine JL.nil ?_
  refine JQ.thenN ?_
  refine JC.ret ?_
  refine JQ.end1 (H' := []) (.inl rfl) rfl (.agg rfl (by repeat (first | exact List.Mem.head _ | refine List.Mem.tail _ ?_ | refine List.mem_append_right _ ?_ | assumption)) Tryd.underlying90 rfl Tryd.sizeOf90 (by first | rfl | exact dig_size _ | (rw [arr8_size]; first | exact sha_length _ | exact shaO_length _ | assumption))) ?_ ?_
  · first | exact Sub.all | exact Sub.of_cnt (fun a => by (try dsimp only); simp only [cntA]; omega) | repeat (first | exact Sub.nil | refine Sub.cons (by first | exact .here | exact .there .here | exact .there (.there .here) | exact .there (.there (.there .here)) | exact .there (.there (.there (.there .here)))) ?_ | exact Sub.all)
  · exact rfl

theorem first_any (w : World) :
    Calls Tryd.prog 51 #[] w (Ret w (fun v _ => v = .agg (arr32 st0.l))) := by
  refine enter (vs := []) Tryd.func51 rfl Tryd.ntmps51 rfl ?_
  refine JC.seq ?_
  -- region 0
  refine JC.region ?_
  refine JL.new rfl rfl rfl (.none rfl) (En.allocZ (cs := arr32 (List.replicate 8 0)) Tryd.zeroValue78 rfl) (fun b0 hb0 => ?_)
  refine JL.nil ?_
  refine JQ.thenN ?_
  refine JC.seq ?_
  -- region 1
  refine JC.region ?_
  refine JL.val rfl rfl rfl (.none rfl) (Ev.buN rfl (fun _ => by kernel_rfl)) ?_
  refine JL.sto rfl rfl (.none rfl) (Es.storeA rfl rfl Tryd.sizeOf78 (by repeat (first | exact .here | apply Upd.there | apply Upd.left)) (by first | rfl | exact dig_size _ | (rw [arr8_size]; first | exact sha_length _ | exact shaO_length _ | assumption)) (by first | rfl | exact dig_size _ | (rw [arr8_size]; first | exact sha_length _ | exact shaO_length _ | assumption)) (arr32_one st0.l)) ?_
  refine JL.nil ?_
  refine JQ.thenN ?_
  refine JC.ret ?_
  refine JQ.end1 (H' := []) (.inl rfl) rfl (.agg rfl (by repeat (first | exact List.Mem.head _ | refine List.Mem.tail _ ?_ | refine List.mem_append_right _ ?_ | assumption)) Tryd.underlying78 rfl Tryd.sizeOf78 (by first | rfl | exact dig_size _ | (rw [arr8_size]; first | exact sha_length _ | exact shaO_length _ | assumption))) ?_ ?_
  · first | exact Sub.all | exact Sub.of_cnt (fun a => by (try dsimp only); simp only [cntA]; omega) | repeat (first | exact Sub.nil | refine Sub.cons (by first | exact .here | exact .there .here | exact .there (.there .here) | exact .there (.there (.there .here)) | exact .there (.there (.there (.there .here)))) ?_ | exact Sub.all)
  · exact rfl

theorem after_any (s : St) (a : Addr) (cap : Nat) (l : List UInt8) (w : World) (hm : BMem w a l) (hl : l.length = 64) (_hc : 64 ≤ cap) :
    Calls Tryd.prog 53 #[.agg (arr32 s.l), .slice (some a) 64 cap] w (Ret w (fun v _ => v = .agg (arr32 (comp s l).l))) := by
  refine enter (vs := [.agg (arr32 s.l), .slice (some a) 64 cap]) Tryd.func53 rfl Tryd.ntmps53 rfl ?_
  refine JC.seq ?_
  -- region 0
  refine JC.region ?_
  refine JL.new rfl rfl rfl (.none rfl) (En.boxA rfl) (fun b2 hb2 => ?_)
  refine JL.new rfl rfl rfl (.none rfl) (En.allocZ (cs := arr32 (List.replicate 8 0)) Tryd.zeroValue78 rfl) (fun b4 hb4 => ?_)
  refine JL.nil ?_
  refine JQ.reH (o' := .cells (arr32 (List.replicate 8 0)) 78 (0, 0)) .here rfl ?_
  refine JQ.thenN ?_
  refine JC.seq ?_
  -- region 1
  refine JC.region ?_
  refine JL.new rfl rfl rfl (.none rfl) (En.allocZ (cs := arr32 (List.replicate 64 0)) Tryd.zeroValue90 rfl) (fun b5 hb5 => ?_)
  refine JL.nil ?_
  refine JQ.reH (o' := .cells (arr32 (fillW l 0)) 90 (0, 0)) .here rfl ?_
  refine JQ.thenN ?_
  refine JC.seq ?_
  refine JC.seq ?_
  -- region 2
  refine JC.region ?_
  refine JL.val rfl rfl rfl (.none rfl) (Ev.assign rfl) ?_
  refine JL.nil ?_
  refine JQ.thenN ?_
  refine JC.block ?_
  refine JC.loop (X := Nat)
    (fun k => [(1, .slice (some a) 64 cap), (2, .pointer (some ⟨b2, 0, none⟩)), (4, .pointer (some ⟨b4, 0, none⟩)), (5, .pointer (some ⟨b5, 0, none⟩)), (6, .int .i64 (k : Int))])
    (fun k => [(b5, .cells (arr32 (fillW l k)) 90 (0, 0)), (b4, .cells (arr32 (List.replicate 8 0)) 78 (0, 0)), (b2, .cells (arr32 s.l) 78 (0, 0))])
    (fun k => k ≤ 64)
    (fun k => 64 - k) 0 ?_ ?_ ?_ ?_
  · exact Keeps.get (by repeat (first | exact Keeps.nil | refine Keeps.cons rfl ?_))
  · first | exact Sub.all | exact Sub.of_cnt (fun a => by (try dsimp only); simp only [cntA]; omega) | repeat (first | exact Sub.nil | refine Sub.cons (by first | exact .here | exact .there .here | exact .there (.there .here) | exact .there (.there (.there .here)) | exact .there (.there (.there (.there .here)))) ?_ | exact Sub.all)
  · omega
  rintro k hk64
  refine JC.seq ?_
  refine JC.seq ?_
  -- region 3
  refine JC.region ?_
  refine JL.val rfl rfl rfl (.none rfl) (Ev.move rfl) ?_
  refine JL.val rfl rfl rfl (.none rfl) (Ev.bin rfl rfl lss_int) ?_
  refine JL.nil ?_
  refine JQ.thenN ?_
  refine JC.cond rfl (fun hc1 => ?_) (fun hc1 => ?_)
  · -- t22 True
    replace hc1 := of_decide_eq_true hc1
    refine JC.skip ?_
    refine JQ.thenN ?_
    refine JC.seq ?_
    refine JC.block ?_
    refine JC.seq ?_
    refine JC.seq ?_
    -- region 5
    refine JC.region ?_
    refine JL.val rfl rfl rfl (.none rfl) (Ev.move rfl) ?_
    refine JL.val rfl rfl rfl (.none rfl) (Ev.bin rfl rfl lss_int) ?_
    refine JL.nil ?_
    refine JQ.thenN ?_
    refine JC.cond rfl (fun hc2 => ?_) (fun hc2 => ?_)
    · -- t26 True
      replace hc2 := of_decide_eq_true hc2
      refine JC.seq ?_
      -- region 6
      refine JC.region ?_
      refine JL.val rfl rfl rfl (.none rfl) (Ev.move rfl) ?_
      refine JL.val rfl rfl rfl (.none rfl) (Ev.move rfl) ?_
      refine JL.val rfl rfl rfl (.none rfl) (Ev.move rfl) ?_
      refine JL.val rfl rfl rfl (.none rfl) (Ev.bin rfl rfl (mul_i64 (by omega))) ?_
      refine JL.re (d := 30) (v' := .int .i64 ((4 * k : Nat) : Int)) rfl (congrArg (Value.int .i64) (by omega)) ?_
      refine JL.callV rfl (.none rfl) rfl Tryd.call58 (fun w1 hw1 => rword_any a (4 * k) 64 cap l w1 (hm.old hw1) hl (by omega) (by omega)) ?_
      refine JL.val rfl rfl rfl (.none rfl) (Ev.idxB1 rfl rfl Tryd.underlying90 Tryd.sizeOf77 (k := k) rfl (by omega)) ?_
      refine JL.sto rfl rfl (.none rfl) (Es.store1 rfl rfl Tryd.sizeOf77 rfl rfl (by repeat (first | exact .here | apply Upd.there | apply Upd.left)) (by rw [arr32_size, fillW_length _ (by omega)]; omega)) ?_
      refine JL.reH .here (congrArg (fun c => Obj.cells c 90 (0, 0)) (fillW_set l (by omega) (by rw [if_pos (by omega)]))) ?_
      refine JL.nil ?_
      refine JQ.thenN ?_
      refine JC.exit ?_
      refine JQ.thenE ?_
      refine JQ.blockE ?_
      refine JQ.thenN ?_
      -- region 4
      refine JC.region ?_
      refine JL.val rfl rfl rfl (.none rfl) (Ev.move rfl) ?_
      refine JL.val rfl rfl rfl (.none rfl) (Ev.bin rfl rfl (add_i64 (by omega))) ?_
      refine JL.val rfl rfl rfl (.none rfl) (Ev.assign rfl) ?_
      refine JL.nil ?_
      refine JQ.loopN (k + 1) ?_ ?_ ?_ ?_
      · exact Keeps.get (by repeat (first | exact Keeps.nil | refine Keeps.cons rfl ?_))
      · first | exact Sub.all | exact Sub.of_cnt (fun a => by (try dsimp only); simp only [cntA]; omega) | repeat (first | exact Sub.nil | refine Sub.cons (by first | exact .here | exact .there .here | exact .there (.there .here) | exact .there (.there (.there .here)) | exact .there (.there (.there (.there .here)))) ?_ | exact Sub.all)
      · omega
      · omega
    · -- t26 False
      replace hc2 := of_decide_eq_false hc2
      refine JC.skip ?_
      refine JQ.thenN ?_
      refine JC.seq ?_
      -- region 7
      refine JC.regionQ (by kernel_rfl) (by kernel_rfl) ?_
      refine JW.val rfl rfl (.none rfl) (Ev.move rfl) ?_
      refine JW.val rfl rfl (.none rfl) (Ev.bin rfl rfl (sub_i64 (by omega))) ?_
      refine JW.val rfl rfl (.none rfl) (Ev.idxB1 rfl rfl Tryd.underlying90 Tryd.sizeOf77 (k := k - 15) (by omega) (by omega)) ?_
      refine JW.val rfl rfl (.none rfl) (Ev.load1 rfl Tryd.underlying77 rfl (Rd.own (by repeat (first | exact List.Mem.head _ | refine List.Mem.tail _ ?_ | refine List.mem_append_right _ ?_ | assumption)) (fillW_get l (by omega)))) ?_
      refine JW.val rfl rfl (.none rfl) (Ev.move rfl) ?_
      refine JW.val rfl rfl (.none rfl) (Ev.bin rfl rfl (sub_i64 (by omega))) ?_
      refine JW.val rfl rfl (.none rfl) (Ev.idxB1 rfl rfl Tryd.underlying90 Tryd.sizeOf77 (k := k - 2) (by omega) (by omega)) ?_
      refine JW.val rfl rfl (.none rfl) (Ev.load1 rfl Tryd.underlying77 rfl (Rd.own (by repeat (first | exact List.Mem.head _ | refine List.Mem.tail _ ?_ | refine List.mem_append_right _ ?_ | assumption)) (fillW_get l (by omega)))) ?_
      refine JW.val rfl rfl (.none rfl) (Ev.assign rfl) ?_
      refine JW.val rfl rfl (.none rfl) (Ev.assign rfl) ?_
      refine JW.nilQ ?_
      refine JQ.thenN ?_
      -- region 8
      refine JC.regionT 29 (by kernel_rfl) (by kernel_rfl) (List.take_append_drop 29 _).symm rfl ?_
      refine JW.val rfl rfl (.none rfl) (Ev.move rfl) ?_
      refine JW.val rfl rfl (.none rfl) (Ev.move rfl) ?_
      refine JW.val rfl rfl (.none rfl) (Ev.bin rfl rfl (sub_i64 (by omega))) ?_
      refine JW.val rfl rfl (.none rfl) (Ev.idxB1 rfl rfl Tryd.underlying90 Tryd.sizeOf77 (k := k - 16) (by omega) (by omega)) ?_
      refine JW.val rfl rfl (.none rfl) (Ev.load1 rfl Tryd.underlying77 rfl (Rd.own (by repeat (first | exact List.Mem.head _ | refine List.Mem.tail _ ?_ | refine List.mem_append_right _ ?_ | assumption)) (fillW_get l (by omega)))) ?_
      refine JW.val rfl rfl (.none rfl) (Ev.move rfl) ?_
      refine JW.call rfl (.none rfl) rfl Tryd.call59 (fun w1 hw1 => turned_any _ 7 (by decide) (by decide) w1) ?_
      refine JW.val rfl rfl (.none rfl) (Ev.move rfl) ?_
      refine JW.call rfl (.none rfl) rfl Tryd.call59 (fun w1 hw1 => turned_any _ 18 (by decide) (by decide) w1) ?_
      refine JW.val rfl rfl (.none rfl) (Ev.bin rfl rfl xor_u32) ?_
      refine JW.val rfl rfl (.none rfl) (Ev.move rfl) ?_
      refine JW.val rfl rfl (.none rfl) (Ev.bin rfl rfl (shr_u32 (n := 3) (by decide))) ?_
      refine JW.val rfl rfl (.none rfl) (Ev.bin rfl rfl xor_u32) ?_
      refine JW.val rfl rfl (.none rfl) (Ev.bin rfl rfl add_u32) ?_
      refine JW.val rfl rfl (.none rfl) (Ev.move rfl) ?_
      refine JW.val rfl rfl (.none rfl) (Ev.bin rfl rfl (sub_i64 (by omega))) ?_
      refine JW.val rfl rfl (.none rfl) (Ev.idxB1 rfl rfl Tryd.underlying90 Tryd.sizeOf77 (k := k - 7) (by omega) (by omega)) ?_
      refine JW.val rfl rfl (.none rfl) (Ev.load1 rfl Tryd.underlying77 rfl (Rd.own (by repeat (first | exact List.Mem.head _ | refine List.Mem.tail _ ?_ | refine List.mem_append_right _ ?_ | assumption)) (fillW_get l (by omega)))) ?_
      refine JW.val rfl rfl (.none rfl) (Ev.bin rfl rfl add_u32) ?_
      refine JW.val rfl rfl (.none rfl) (Ev.move rfl) ?_
      refine JW.call rfl (.none rfl) rfl Tryd.call59 (fun w1 hw1 => turned_any _ 17 (by decide) (by decide) w1) ?_
      refine JW.val rfl rfl (.none rfl) (Ev.move rfl) ?_
      refine JW.call rfl (.none rfl) rfl Tryd.call59 (fun w1 hw1 => turned_any _ 19 (by decide) (by decide) w1) ?_
      refine JW.val rfl rfl (.none rfl) (Ev.bin rfl rfl xor_u32) ?_
      refine JW.val rfl rfl (.none rfl) (Ev.move rfl) ?_
      refine JW.val rfl rfl (.none rfl) (Ev.bin rfl rfl (shr_u32 (n := 10) (by decide))) ?_
      refine JW.val rfl rfl (.none rfl) (Ev.bin rfl rfl xor_u32) ?_
      refine JW.val rfl rfl (.none rfl) (Ev.bin rfl rfl add_u32) ?_
      refine JW.val rfl rfl (.none rfl) (Ev.idxB1 rfl rfl Tryd.underlying90 Tryd.sizeOf77 (k := k) rfl (by omega)) ?_
      refine JW.tail ?_
      refine JL.sto rfl rfl (.none rfl) (Es.store1 rfl rfl Tryd.sizeOf77 rfl rfl (by repeat (first | exact .here | apply Upd.there | apply Upd.left)) (by rw [arr32_size, fillW_length _ (by omega)]; omega)) ?_
      refine JL.reH .here (congrArg (fun c => Obj.cells c 90 (0, 0)) (fillW_set l (by omega) (by rw [if_neg (by omega)]; rfl))) ?_
      refine JL.nil ?_
      refine JQ.blockN ?_
      refine JQ.thenN ?_
      -- region 4
      refine JC.region ?_
      refine JL.val rfl rfl rfl (.none rfl) (Ev.move rfl) ?_
      refine JL.val rfl rfl rfl (.none rfl) (Ev.bin rfl rfl (add_i64 (by omega))) ?_
      refine JL.val rfl rfl rfl (.none rfl) (Ev.assign rfl) ?_
      refine JL.nil ?_
      refine JQ.loopN (k + 1) ?_ ?_ ?_ ?_
      · exact Keeps.get (by repeat (first | exact Keeps.nil | refine Keeps.cons rfl ?_))
      · first | exact Sub.all | exact Sub.of_cnt (fun a => by (try dsimp only); simp only [cntA]; omega) | repeat (first | exact Sub.nil | refine Sub.cons (by first | exact .here | exact .there .here | exact .there (.there .here) | exact .there (.there (.there .here)) | exact .there (.there (.there (.there .here)))) ?_ | exact Sub.all)
      · omega
      · omega
  · -- t22 False
    replace hc1 := of_decide_eq_false hc1
    refine JC.exit ?_
    refine JQ.thenE ?_
    refine JQ.thenE ?_
    refine JQ.blockE ?_
    refine JQ.thenN ?_
    refine JC.seq ?_
    -- region 9
    refine JC.region ?_
    obtain rfl : k = 64 := by omega
    refine JL.reH .here (congrArg (fun c => Obj.cells c 90 (0, 0)) (congrArg arr32 (fillW_all l))) ?_
    refine JL.callV rfl (.none rfl) rfl Tryd.call60 (fun w1 hw1 => rk_any w1) ?_
    refine JL.new rfl rfl rfl (.none rfl) (En.allocZ (cs := arr32 (List.replicate 64 0)) Tryd.zeroValue90 rfl) (fun b9 hb9 => ?_)
    refine JL.sto rfl rfl (.none rfl) (Es.storeA rfl rfl Tryd.sizeOf90 (by repeat (first | exact .here | apply Upd.there | apply Upd.left)) (by first | rfl | exact dig_size _ | (rw [arr8_size]; first | exact sha_length _ | exact shaO_length _ | assumption)) (by first | rfl | exact dig_size _ | (rw [arr8_size]; first | exact sha_length _ | exact shaO_length _ | assumption)) (arr32_one _)) ?_
    refine JL.nil ?_
    refine JQ.thenN ?_
    refine JC.seq ?_
    -- region 10
    refine JC.regionQ (by kernel_rfl) (by kernel_rfl) ?_
    refine JW.val rfl rfl (.none rfl) (Ev.idxB1 (k := 0) rfl rfl Tryd.underlying78 Tryd.sizeOf77 rfl (by omega)) ?_
    refine JW.val rfl rfl (.none rfl) (Ev.load1 rfl Tryd.underlying77 rfl (Rd.own (by repeat (first | exact List.Mem.head _ | refine List.Mem.tail _ ?_ | refine List.mem_append_right _ ?_ | assumption)) rfl)) ?_
    refine JW.val rfl rfl (.none rfl) (Ev.idxB1 (k := 1) rfl rfl Tryd.underlying78 Tryd.sizeOf77 rfl (by omega)) ?_
    refine JW.val rfl rfl (.none rfl) (Ev.load1 rfl Tryd.underlying77 rfl (Rd.own (by repeat (first | exact List.Mem.head _ | refine List.Mem.tail _ ?_ | refine List.mem_append_right _ ?_ | assumption)) rfl)) ?_
    refine JW.val rfl rfl (.none rfl) (Ev.idxB1 (k := 2) rfl rfl Tryd.underlying78 Tryd.sizeOf77 rfl (by omega)) ?_
    refine JW.val rfl rfl (.none rfl) (Ev.load1 rfl Tryd.underlying77 rfl (Rd.own (by repeat (first | exact List.Mem.head _ | refine List.Mem.tail _ ?_ | refine List.mem_append_right _ ?_ | assumption)) rfl)) ?_
    refine JW.val rfl rfl (.none rfl) (Ev.idxB1 (k := 3) rfl rfl Tryd.underlying78 Tryd.sizeOf77 rfl (by omega)) ?_
    refine JW.val rfl rfl (.none rfl) (Ev.load1 rfl Tryd.underlying77 rfl (Rd.own (by repeat (first | exact List.Mem.head _ | refine List.Mem.tail _ ?_ | refine List.mem_append_right _ ?_ | assumption)) rfl)) ?_
    refine JW.val rfl rfl (.none rfl) (Ev.idxB1 (k := 4) rfl rfl Tryd.underlying78 Tryd.sizeOf77 rfl (by omega)) ?_
    refine JW.val rfl rfl (.none rfl) (Ev.load1 rfl Tryd.underlying77 rfl (Rd.own (by repeat (first | exact List.Mem.head _ | refine List.Mem.tail _ ?_ | refine List.mem_append_right _ ?_ | assumption)) rfl)) ?_
    refine JW.val rfl rfl (.none rfl) (Ev.idxB1 (k := 5) rfl rfl Tryd.underlying78 Tryd.sizeOf77 rfl (by omega)) ?_
    refine JW.val rfl rfl (.none rfl) (Ev.load1 rfl Tryd.underlying77 rfl (Rd.own (by repeat (first | exact List.Mem.head _ | refine List.Mem.tail _ ?_ | refine List.mem_append_right _ ?_ | assumption)) rfl)) ?_
    refine JW.val rfl rfl (.none rfl) (Ev.idxB1 (k := 6) rfl rfl Tryd.underlying78 Tryd.sizeOf77 rfl (by omega)) ?_
    refine JW.val rfl rfl (.none rfl) (Ev.load1 rfl Tryd.underlying77 rfl (Rd.own (by repeat (first | exact List.Mem.head _ | refine List.Mem.tail _ ?_ | refine List.mem_append_right _ ?_ | assumption)) rfl)) ?_
    refine JW.val rfl rfl (.none rfl) (Ev.idxB1 (k := 7) rfl rfl Tryd.underlying78 Tryd.sizeOf77 rfl (by omega)) ?_
    refine JW.val rfl rfl (.none rfl) (Ev.load1 rfl Tryd.underlying77 rfl (Rd.own (by repeat (first | exact List.Mem.head _ | refine List.Mem.tail _ ?_ | refine List.mem_append_right _ ?_ | assumption)) rfl)) ?_
    refine JW.val rfl rfl (.none rfl) (Ev.assign rfl) ?_
    refine JW.val rfl rfl (.none rfl) (Ev.assign rfl) ?_
    refine JW.val rfl rfl (.none rfl) (Ev.assign rfl) ?_
    refine JW.val rfl rfl (.none rfl) (Ev.assign rfl) ?_
    refine JW.val rfl rfl (.none rfl) (Ev.assign rfl) ?_
    refine JW.val rfl rfl (.none rfl) (Ev.assign rfl) ?_
    refine JW.val rfl rfl (.none rfl) (Ev.assign rfl) ?_
    refine JW.val rfl rfl (.none rfl) (Ev.assign rfl) ?_
    refine JW.nilQ ?_
    refine JQ.thenN ?_
    refine JC.seq ?_
    refine JC.seq ?_
    -- region 11
    refine JC.region ?_
    refine JL.val rfl rfl rfl (.none rfl) (Ev.assign rfl) ?_
    refine JL.nil ?_
    refine JQ.thenN ?_
    refine JC.block ?_
    refine JC.loop (X := Nat)
      (fun k => [(2, .pointer (some ⟨b2, 0, none⟩)), (4, .pointer (some ⟨b4, 0, none⟩)), (5, .pointer (some ⟨b5, 0, none⟩)), (9, .pointer (some ⟨b9, 0, none⟩)), (18, .int .i64 (k : Int)), (10, u32 (rounds s l k).a), (11, u32 (rounds s l k).b), (12, u32 (rounds s l k).c), (13, u32 (rounds s l k).d), (14, u32 (rounds s l k).e), (15, u32 (rounds s l k).f), (16, u32 (rounds s l k).g), (17, u32 (rounds s l k).h)])
      (fun k => [(b9, .cells (arr32 kTab) 90 (0, 0)), (b5, .cells (arr32 (sched l 64)) 90 (0, 0)), (b4, .cells (arr32 (List.replicate 8 0)) 78 (0, 0)), (b2, .cells (arr32 s.l) 78 (0, 0))])
      (fun k => k ≤ 64)
      (fun k => 64 - k) 0 ?_ ?_ ?_ ?_
    · exact Keeps.get (by repeat (first | exact Keeps.nil | refine Keeps.cons rfl ?_))
    · first | exact Sub.all | exact Sub.of_cnt (fun a => by (try dsimp only); simp only [cntA]; omega) | repeat (first | exact Sub.nil | refine Sub.cons (by first | exact .here | exact .there .here | exact .there (.there .here) | exact .there (.there (.there .here)) | exact .there (.there (.there (.there .here)))) ?_ | exact Sub.all)
    · omega
    rintro k hk64
    refine JC.seq ?_
    refine JC.seq ?_
    -- region 12
    refine JC.region ?_
    refine JL.val rfl rfl rfl (.none rfl) (Ev.move rfl) ?_
    refine JL.val rfl rfl rfl (.none rfl) (Ev.bin rfl rfl lss_int) ?_
    refine JL.nil ?_
    refine JQ.thenN ?_
    refine JC.cond rfl (fun hc3 => ?_) (fun hc3 => ?_)
    · -- t88 True
      replace hc3 := of_decide_eq_true hc3
      refine JC.skip ?_
      refine JQ.thenN ?_
      refine JC.seq ?_
      refine JC.block ?_
      refine JC.seq ?_
      -- region 14
      refine JC.regionQ (by kernel_rfl) (by kernel_rfl) ?_
      refine JW.val rfl rfl (.none rfl) (Ev.move rfl) ?_
      refine JW.val rfl rfl (.none rfl) (Ev.move rfl) ?_
      refine JW.call rfl (.none rfl) rfl Tryd.call59 (fun w1 hw1 => turned_any _ 6 (by decide) (by decide) w1) ?_
      refine JW.val rfl rfl (.none rfl) (Ev.move rfl) ?_
      refine JW.call rfl (.none rfl) rfl Tryd.call59 (fun w1 hw1 => turned_any _ 11 (by decide) (by decide) w1) ?_
      refine JW.val rfl rfl (.none rfl) (Ev.bin rfl rfl xor_u32) ?_
      refine JW.val rfl rfl (.none rfl) (Ev.move rfl) ?_
      refine JW.call rfl (.none rfl) rfl Tryd.call59 (fun w1 hw1 => turned_any _ 25 (by decide) (by decide) w1) ?_
      refine JW.val rfl rfl (.none rfl) (Ev.bin rfl rfl xor_u32) ?_
      refine JW.val rfl rfl (.none rfl) (Ev.bin rfl rfl add_u32) ?_
      refine JW.val rfl rfl (.none rfl) (Ev.move rfl) ?_
      refine JW.val rfl rfl (.none rfl) (Ev.move rfl) ?_
      refine JW.val rfl rfl (.none rfl) (Ev.bin rfl rfl and_u32) ?_
      refine JW.val rfl rfl (.none rfl) (Ev.move rfl) ?_
      refine JW.val rfl rfl (.none rfl) (Ev.com32 rfl) ?_
      refine JW.val rfl rfl (.none rfl) (Ev.move rfl) ?_
      refine JW.val rfl rfl (.none rfl) (Ev.bin rfl rfl and_u32) ?_
      refine JW.val rfl rfl (.none rfl) (Ev.bin rfl rfl or_u32) ?_
      refine JW.val rfl rfl (.none rfl) (Ev.bin rfl rfl add_u32) ?_
      refine JW.val rfl rfl (.none rfl) (Ev.move rfl) ?_
      refine JW.val rfl rfl (.none rfl) (Ev.idxB1 rfl rfl Tryd.underlying90 Tryd.sizeOf77 (k := k) rfl (by omega)) ?_
      refine JW.val rfl rfl (.none rfl) (Ev.load1 rfl Tryd.underlying77 rfl (Rd.own (by repeat (first | exact List.Mem.head _ | refine List.Mem.tail _ ?_ | refine List.mem_append_right _ ?_ | assumption)) (kt_at (by omega)))) ?_
      refine JW.val rfl rfl (.none rfl) (Ev.bin rfl rfl add_u32) ?_
      refine JW.val rfl rfl (.none rfl) (Ev.move rfl) ?_
      refine JW.val rfl rfl (.none rfl) (Ev.idxB1 rfl rfl Tryd.underlying90 Tryd.sizeOf77 (k := k) rfl (by omega)) ?_
      refine JW.val rfl rfl (.none rfl) (Ev.load1 rfl Tryd.underlying77 rfl (Rd.own (by repeat (first | exact List.Mem.head _ | refine List.Mem.tail _ ?_ | refine List.mem_append_right _ ?_ | assumption)) (sched_at l (by omega)))) ?_
      refine JW.val rfl rfl (.none rfl) (Ev.bin rfl rfl add_u32) ?_
      refine JW.val rfl rfl (.none rfl) (Ev.assign rfl) ?_
      refine JW.re (d := 19) (v' := u32 (t1 (rounds s l k) (kTab.getD k 0) ((sched l 64).getD k 0))) rfl (congrArg u32 (t1_eq (rounds s l k) (kTab.getD k 0) ((sched l 64).getD k 0))) ?_
      refine JW.nilQ ?_
      refine JQ.thenN ?_
      refine JC.seq ?_
      -- region 15
      refine JC.region ?_
      refine JL.val rfl rfl rfl (.none rfl) (Ev.move rfl) ?_
      refine JL.callV rfl (.none rfl) rfl Tryd.call59 (fun w1 hw1 => turned_any _ 2 (by decide) (by decide) w1) ?_
      refine JL.val rfl rfl rfl (.none rfl) (Ev.move rfl) ?_
      refine JL.callV rfl (.none rfl) rfl Tryd.call59 (fun w1 hw1 => turned_any _ 13 (by decide) (by decide) w1) ?_
      refine JL.val rfl rfl rfl (.none rfl) (Ev.bin rfl rfl xor_u32) ?_
      refine JL.val rfl rfl rfl (.none rfl) (Ev.move rfl) ?_
      refine JL.callV rfl (.none rfl) rfl Tryd.call59 (fun w1 hw1 => turned_any _ 22 (by decide) (by decide) w1) ?_
      refine JL.val rfl rfl rfl (.none rfl) (Ev.bin rfl rfl xor_u32) ?_
      refine JL.val rfl rfl rfl (.none rfl) (Ev.move rfl) ?_
      refine JL.val rfl rfl rfl (.none rfl) (Ev.move rfl) ?_
      refine JL.val rfl rfl rfl (.none rfl) (Ev.bin rfl rfl and_u32) ?_
      refine JL.val rfl rfl rfl (.none rfl) (Ev.move rfl) ?_
      refine JL.val rfl rfl rfl (.none rfl) (Ev.move rfl) ?_
      refine JL.val rfl rfl rfl (.none rfl) (Ev.bin rfl rfl and_u32) ?_
      refine JL.val rfl rfl rfl (.none rfl) (Ev.bin rfl rfl or_u32) ?_
      refine JL.val rfl rfl rfl (.none rfl) (Ev.move rfl) ?_
      refine JL.val rfl rfl rfl (.none rfl) (Ev.move rfl) ?_
      refine JL.val rfl rfl rfl (.none rfl) (Ev.bin rfl rfl and_u32) ?_
      refine JL.val rfl rfl rfl (.none rfl) (Ev.bin rfl rfl or_u32) ?_
      refine JL.val rfl rfl rfl (.none rfl) (Ev.bin rfl rfl add_u32) ?_
      refine JL.val rfl rfl rfl (.none rfl) (Ev.assign rfl) ?_
      refine JL.re (d := 20) (v' := u32 (t2 (rounds s l k))) rfl (congrArg u32 (t2_eq (rounds s l k))) ?_
      refine JL.nil ?_
      refine JQ.thenN ?_
      -- region 16
      refine JC.region ?_
      refine JL.val rfl rfl rfl (.none rfl) (Ev.move rfl) ?_
      refine JL.val rfl rfl rfl (.none rfl) (Ev.move rfl) ?_
      refine JL.val rfl rfl rfl (.none rfl) (Ev.move rfl) ?_
      refine JL.val rfl rfl rfl (.none rfl) (Ev.move rfl) ?_
      refine JL.val rfl rfl rfl (.none rfl) (Ev.move rfl) ?_
      refine JL.val rfl rfl rfl (.none rfl) (Ev.bin rfl rfl add_u32) ?_
      refine JL.val rfl rfl rfl (.none rfl) (Ev.move rfl) ?_
      refine JL.val rfl rfl rfl (.none rfl) (Ev.move rfl) ?_
      refine JL.val rfl rfl rfl (.none rfl) (Ev.move rfl) ?_
      refine JL.val rfl rfl rfl (.none rfl) (Ev.move rfl) ?_
      refine JL.val rfl rfl rfl (.none rfl) (Ev.move rfl) ?_
      refine JL.val rfl rfl rfl (.none rfl) (Ev.bin rfl rfl add_u32) ?_
      refine JL.val rfl rfl rfl (.none rfl) (Ev.assign rfl) ?_
      refine JL.val rfl rfl rfl (.none rfl) (Ev.assign rfl) ?_
      refine JL.val rfl rfl rfl (.none rfl) (Ev.assign rfl) ?_
      refine JL.val rfl rfl rfl (.none rfl) (Ev.assign rfl) ?_
      refine JL.val rfl rfl rfl (.none rfl) (Ev.assign rfl) ?_
      refine JL.val rfl rfl rfl (.none rfl) (Ev.assign rfl) ?_
      refine JL.val rfl rfl rfl (.none rfl) (Ev.assign rfl) ?_
      refine JL.val rfl rfl rfl (.none rfl) (Ev.assign rfl) ?_
      refine JL.nil ?_
      refine JQ.blockN ?_
      refine JQ.thenN ?_
      -- region 13
      refine JC.region ?_
      refine JL.val rfl rfl rfl (.none rfl) (Ev.move rfl) ?_
      refine JL.val rfl rfl rfl (.none rfl) (Ev.bin rfl rfl (add_i64 (by omega))) ?_
      refine JL.val rfl rfl rfl (.none rfl) (Ev.assign rfl) ?_
      refine JL.nil ?_
      refine JQ.loopN (k + 1) ?_ ?_ ?_ ?_
      · exact Keeps.get (by repeat (first | exact Keeps.nil | refine Keeps.cons rfl ?_))
      · first | exact Sub.all | exact Sub.of_cnt (fun a => by (try dsimp only); simp only [cntA]; omega) | repeat (first | exact Sub.nil | refine Sub.cons (by first | exact .here | exact .there .here | exact .there (.there .here) | exact .there (.there (.there .here)) | exact .there (.there (.there (.there .here)))) ?_ | exact Sub.all)
      · omega
      · omega
    · -- t88 False
      replace hc3 := of_decide_eq_false hc3
      refine JC.exit ?_
      refine JQ.thenE ?_
      refine JQ.thenE ?_
      refine JQ.blockE ?_
      refine JQ.thenN ?_
      refine JC.seq ?_
      -- region 17
      refine JC.region ?_
      obtain rfl : k = 64 := by omega
      refine JL.val rfl rfl rfl (.none rfl) (Ev.idxB1 (k := 0) rfl rfl Tryd.underlying78 Tryd.sizeOf77 rfl (by omega)) ?_
      refine JL.val rfl rfl rfl (.none rfl) (Ev.load1 rfl Tryd.underlying77 rfl (Rd.own (by repeat (first | exact List.Mem.head _ | refine List.Mem.tail _ ?_ | refine List.mem_append_right _ ?_ | assumption)) rfl)) ?_
      refine JL.val rfl rfl rfl (.none rfl) (Ev.move rfl) ?_
      refine JL.val rfl rfl rfl (.none rfl) (Ev.bin rfl rfl add_u32) ?_
      refine JL.val rfl rfl rfl (.none rfl) (Ev.idxB1 (k := 1) rfl rfl Tryd.underlying78 Tryd.sizeOf77 rfl (by omega)) ?_
      refine JL.val rfl rfl rfl (.none rfl) (Ev.load1 rfl Tryd.underlying77 rfl (Rd.own (by repeat (first | exact List.Mem.head _ | refine List.Mem.tail _ ?_ | refine List.mem_append_right _ ?_ | assumption)) rfl)) ?_
      refine JL.val rfl rfl rfl (.none rfl) (Ev.move rfl) ?_
      refine JL.val rfl rfl rfl (.none rfl) (Ev.bin rfl rfl add_u32) ?_
      refine JL.val rfl rfl rfl (.none rfl) (Ev.idxB1 (k := 2) rfl rfl Tryd.underlying78 Tryd.sizeOf77 rfl (by omega)) ?_
      refine JL.val rfl rfl rfl (.none rfl) (Ev.load1 rfl Tryd.underlying77 rfl (Rd.own (by repeat (first | exact List.Mem.head _ | refine List.Mem.tail _ ?_ | refine List.mem_append_right _ ?_ | assumption)) rfl)) ?_
      refine JL.val rfl rfl rfl (.none rfl) (Ev.move rfl) ?_
      refine JL.val rfl rfl rfl (.none rfl) (Ev.bin rfl rfl add_u32) ?_
      refine JL.val rfl rfl rfl (.none rfl) (Ev.idxB1 (k := 3) rfl rfl Tryd.underlying78 Tryd.sizeOf77 rfl (by omega)) ?_
      refine JL.val rfl rfl rfl (.none rfl) (Ev.load1 rfl Tryd.underlying77 rfl (Rd.own (by repeat (first | exact List.Mem.head _ | refine List.Mem.tail _ ?_ | refine List.mem_append_right _ ?_ | assumption)) rfl)) ?_
      refine JL.val rfl rfl rfl (.none rfl) (Ev.move rfl) ?_
      refine JL.val rfl rfl rfl (.none rfl) (Ev.bin rfl rfl add_u32) ?_
      refine JL.val rfl rfl rfl (.none rfl) (Ev.idxB1 (k := 4) rfl rfl Tryd.underlying78 Tryd.sizeOf77 rfl (by omega)) ?_
      refine JL.val rfl rfl rfl (.none rfl) (Ev.load1 rfl Tryd.underlying77 rfl (Rd.own (by repeat (first | exact List.Mem.head _ | refine List.Mem.tail _ ?_ | refine List.mem_append_right _ ?_ | assumption)) rfl)) ?_
      refine JL.val rfl rfl rfl (.none rfl) (Ev.move rfl) ?_
      refine JL.val rfl rfl rfl (.none rfl) (Ev.bin rfl rfl add_u32) ?_
      refine JL.val rfl rfl rfl (.none rfl) (Ev.idxB1 (k := 5) rfl rfl Tryd.underlying78 Tryd.sizeOf77 rfl (by omega)) ?_
      refine JL.val rfl rfl rfl (.none rfl) (Ev.load1 rfl Tryd.underlying77 rfl (Rd.own (by repeat (first | exact List.Mem.head _ | refine List.Mem.tail _ ?_ | refine List.mem_append_right _ ?_ | assumption)) rfl)) ?_
      refine JL.val rfl rfl rfl (.none rfl) (Ev.move rfl) ?_
      refine JL.val rfl rfl rfl (.none rfl) (Ev.bin rfl rfl add_u32) ?_
      refine JL.val rfl rfl rfl (.none rfl) (Ev.idxB1 (k := 6) rfl rfl Tryd.underlying78 Tryd.sizeOf77 rfl (by omega)) ?_
      refine JL.val rfl rfl rfl (.none rfl) (Ev.load1 rfl Tryd.underlying77 rfl (Rd.own (by repeat (first | exact List.Mem.head _ | refine List.Mem.tail _ ?_ | refine List.mem_append_right _ ?_ | assumption)) rfl)) ?_
      refine JL.val rfl rfl rfl (.none rfl) (Ev.move rfl) ?_
      refine JL.val rfl rfl rfl (.none rfl) (Ev.bin rfl rfl add_u32) ?_
      refine JL.val rfl rfl rfl (.none rfl) (Ev.idxB1 (k := 7) rfl rfl Tryd.underlying78 Tryd.sizeOf77 rfl (by omega)) ?_
      refine JL.val rfl rfl rfl (.none rfl) (Ev.load1 rfl Tryd.underlying77 rfl (Rd.own (by repeat (first | exact List.Mem.head _ | refine List.Mem.tail _ ?_ | refine List.mem_append_right _ ?_ | assumption)) rfl)) ?_
      refine JL.val rfl rfl rfl (.none rfl) (Ev.move rfl) ?_
      refine JL.val rfl rfl rfl (.none rfl) (Ev.bin rfl rfl add_u32) ?_
      refine JL.val rfl rfl rfl (.none rfl) (Ev.buN rfl (fun _ => by kernel_rfl)) ?_
      refine JL.sto rfl rfl (.none rfl) (Es.storeA rfl rfl Tryd.sizeOf78 (by repeat (first | exact .here | apply Upd.there | apply Upd.left)) (by first | rfl | exact dig_size _ | (rw [arr8_size]; first | exact sha_length _ | exact shaO_length _ | assumption)) (by first | rfl | exact dig_size _ | (rw [arr8_size]; first | exact sha_length _ | exact shaO_length _ | assumption)) (arr32_one (comp s l).l)) ?_
      refine JL.nil ?_
      refine JQ.thenN ?_
      refine JC.ret ?_
      refine JQ.end1 (H' := []) (.inl rfl) rfl (.agg rfl (by repeat (first | exact List.Mem.head _ | refine List.Mem.tail _ ?_ | refine List.mem_append_right _ ?_ | assumption)) Tryd.underlying78 rfl Tryd.sizeOf78 (by first | rfl | exact dig_size _ | (rw [arr8_size]; first | exact sha_length _ | exact shaO_length _ | assumption))) ?_ ?_
      · first | exact Sub.all | exact Sub.of_cnt (fun a => by (try dsimp only); simp only [cntA]; omega) | repeat (first | exact Sub.nil | refine Sub.cons (by first | exact .here | exact .there .here | exact .there (.there .here) | exact .there (.there (.there .here)) | exact .there (.there (.there (.there .here)))) ?_ | exact Sub.all)
      · exact rfl

end Go.Proofs.YtebinlinhmohbaaDoor
