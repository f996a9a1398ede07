/-
  Numbers read out of bytes and put behind them; a try; the number drawn, in the program and in the reference.
-/
import Derived.Test.YtjjoenbighmfoaaDoorOct3Uq
import Derived.Test.YtjjoenbighmfoaaDoorPackCUq
import Derived.Test.YtjjoenbighmfoaaDoorPackAUq
namespace Go.Proofs.YtjjoenbighmfoaaDoor
open Go Go.RowKit
set_option maxRecDepth 100000

theorem shr32 {n : UInt64} (hn : n.toNat < 4294967296) : (n >>> UInt64.ofNat 32).toNat = 0 := by
  rw [UInt64.toNat_shiftRight]
  have e : (UInt64.ofNat 32).toNat % 64 = 32 := rfl
  rw [e, Nat.shiftRight_eq_div_pow]
  omega
theorem fits4_any (n : UInt64) (w : World) (hn : n.toNat < 4294967296) :
    Calls Tryd.prog 66 #[u64 n, .int .i64 4] w (Ret w (fun v _ => v = .bool true)) := by
  refine enter (vs := [u64 n, .int .i64 4]) Tryd.func66 rfl Tryd.ntmps66 rfl ?_
  refine JC.seq ?_
  -- region 0
  refine JC.region ?_
  refine JL.val rfl rfl rfl (.none rfl) (Ev.assign rfl) ?_
  refine JL.nil ?_
  refine JQ.thenN ?_
  refine JC.seq ?_
  -- region 1
  refine JC.region ?_
  refine JL.val rfl rfl rfl (.none rfl) (Ev.move rfl) ?_
  refine JL.val rfl rfl rfl (.none rfl) (Ev.bin rfl rfl geq_int) ?_
  refine JL.val rfl rfl rfl (.none rfl) (Ev.move rfl) ?_
  refine JL.know (d := 7) (b := true) rfl ?_ ?_
  · rfl
  refine JL.val rfl rfl rfl (.yes rfl rfl rfl) (Ev.move rfl) ?_
  refine JL.val rfl rfl rfl (.yes rfl rfl rfl) (Ev.bin rfl rfl leq_int) ?_
  refine JL.val rfl rfl rfl (.none rfl) (Ev.pickT rfl rfl) ?_
  refine JL.val rfl rfl rfl (.none rfl) (Ev.move rfl) ?_
  refine JL.know (d := 11) (b := true) rfl ?_ ?_
  · rfl
  refine JL.val rfl rfl rfl (.yes rfl rfl rfl) (Ev.move rfl) ?_
  refine JL.val rfl rfl rfl (.yes rfl rfl rfl) (Ev.bin rfl rfl eql_int) ?_
  refine JL.val rfl rfl rfl (.yes rfl rfl rfl) (Ev.move rfl) ?_
  refine JL.know (d := 14) (b := false) rfl ?_ ?_
  · rfl
  refine JL.val rfl rfl rfl (.yes rfl rfl rfl) (Ev.move rfl) ?_
  refine JL.val rfl rfl rfl (.yes rfl rfl rfl) (Ev.move rfl) ?_
  refine JL.val rfl rfl rfl (.yes rfl rfl rfl) (Ev.bin rfl rfl (mul_i64 (by omega))) ?_
  refine JL.val rfl rfl rfl (.yes rfl rfl rfl) (Ev.bin rfl rfl (shr_u64 (n := 32) (by omega))) ?_
  refine JL.val rfl rfl rfl (.yes rfl rfl rfl) (Ev.bin rfl rfl eql_int) ?_
  refine JL.know (d := 14) (b := false) rfl rfl ?_
  refine JL.know (d := 19) (b := true) rfl (decide_eq_true (congrArg (fun n : Nat => (n : Int)) (shr32 hn))) ?_
  refine JL.val rfl rfl rfl (.yes rfl rfl rfl) (Ev.pickF rfl rfl) ?_
  refine JL.val rfl rfl rfl (.none rfl) (Ev.pickT rfl rfl) ?_
  refine JL.val rfl rfl rfl (.none rfl) (Ev.assign rfl) ?_
  refine JL.nil ?_
  refine JQ.thenN ?_
  refine JC.ret ?_
  refine JQ.end1 (H' := []) (.inl rfl) rfl (.tmp rfl) ?_ ?_
  · first | exact Sub.all | exact Sub.of_cnt (fun a => by (try dsimp only); simp only [cntA]; omega) | repeat (first | exact Sub.nil | refine Sub.cons (by first | exact .here | exact .there .here | exact .there (.there .here) | exact .there (.there (.there .here)) | exact .there (.there (.there (.there .here)))) ?_ | exact Sub.all)
  · exact rfl

theorem put4_any (oa : Option Addr) (cap : Nat) (l : List UInt8) (w : World) (hb : Bs w oa cap l) (hl : l.length ≤ 10000) (n : UInt64) (hn : n.toNat < 4294967296) :
    Calls Tryd.prog 55 #[.slice oa l.length cap, u64 n, .int .i64 4] w (Ret w (fun v H => ∃ r1 : Option Row, v = .tuple #[Row.v (l.length + 4) r1, .int .i64 0] ∧ H = Row.b 5 r1 ∧ Row.ok 1 (l.length + 4) ((l ++ be n 4).map u8) r1)) := by
  refine enter (vs := [.slice oa l.length cap, u64 n, .int .i64 4]) Tryd.func55 rfl Tryd.ntmps55 rfl ?_
  refine JC.seq ?_
  -- region 0
  refine JC.region ?_
  refine JL.val rfl rfl rfl (.none rfl) (Ev.assign rfl) ?_
  refine JL.val rfl rfl rfl (.none rfl) (Ev.assign rfl) ?_
  refine JL.nil ?_
  refine JQ.thenN ?_
  refine JC.seq ?_
  refine JC.seq ?_
  -- region 1
  refine JC.region ?_
  refine JL.val rfl rfl rfl (.none rfl) (Ev.move rfl) ?_
  refine JL.val rfl rfl rfl (.none rfl) (Ev.move rfl) ?_
  refine JL.callV rfl (.none rfl) rfl Tryd.call66 (fun w1 hw1 => fits4_any n w1 hn) ?_
  refine JL.val rfl rfl rfl (.none rfl) (Ev.not rfl) ?_
  refine JL.nil ?_
  refine JQ.thenN ?_
  refine JC.knowF rfl ?_ ?_
  · rfl
  refine JC.skip ?_
  refine JQ.thenN ?_
  refine JC.seq ?_
  refine JC.seq ?_
  -- region 3
  refine JC.region ?_
  refine JL.val rfl rfl rfl (.none rfl) (Ev.move rfl) ?_
  refine JL.val rfl rfl rfl (.none rfl) (Ev.lenS rfl Tryd.underlying88) ?_
  refine JL.val rfl rfl rfl (.none rfl) (Ev.move rfl) ?_
  refine JL.val rfl rfl rfl (.none rfl) (Ev.bin rfl rfl (sub_i64 (by omega))) ?_
  refine JL.val rfl rfl rfl (.none rfl) (Ev.bin rfl rfl gtr_int) ?_
  refine JL.nil ?_
  refine JQ.thenN ?_
  refine JC.knowF rfl ?_ ?_
  · exact decide_eq_false (by omega)
  refine JC.skip ?_
  refine JQ.thenN ?_
  refine JC.seq ?_
  -- region 5
  refine JC.region ?_
  refine JL.val rfl rfl rfl (.none rfl) (Ev.move rfl) ?_
  refine JL.callN rfl (.none rfl) rfl Tryd.call68 (fun w1 hw1 => clone_any oa cap l w1 (hb.old hw1) (by omega)) ?_
  rintro _ _ ⟨r0, rfl, rfl, hr0⟩
  refine JL.val rfl rfl rfl (.none rfl) (Ev.move rfl) ?_
  refine JL.val rfl rfl rfl (.none rfl) (Ev.move rfl) ?_
  refine JL.call rfl (.none rfl) rfl Tryd.call67 (fun w1 hw1 => put_any w w1 [] r0 l.length l n 4 (by decide) (by omega) hr0 hw1) ?_
  rintro _ _ ⟨r1, rfl, rfl, hr1⟩
  refine JL.val rfl rfl rfl (.none rfl) (Ev.assign rfl) ?_
  refine JL.val rfl rfl rfl (.none rfl) (Ev.assign rfl) ?_
  refine JL.nil ?_
  refine JQ.thenN ?_
  refine JC.ret ?_
  refine JQ.end2 (H' := (Row.b 5 r1)) (.inl rfl) rfl (.tmp rfl) (.tmp rfl) ?_ ?_
  · exact Sub.of_cnt (fun a => by (try dsimp only); simp only [cntA]; omega)
  · exact ⟨r1, rfl, rfl, hr1⟩

theorem take_any (a : Addr) (cap : Nat) (l : List UInt8) (w : World) (hb : Bs w (some a) cap l) (hl : l.length ≤ 1000000) (i size : Nat) (h1 : 1 ≤ size) (h8 : size ≤ 8) (hi : i + size ≤ l.length) :
    Calls Tryd.prog 57 #[.slice (some a) l.length cap, .int .i64 (i : Int), .int .i64 (size : Int)] w (Ret w (fun v _ => v = .tuple #[u64 (numB ((l.drop i).take size)), .int .i64 ((i + size : Nat) : Int), .int .i64 0])) := by
  refine enter (vs := [.slice (some a) l.length cap, .int .i64 (i : Int), .int .i64 (size : Int)]) Tryd.func57 rfl Tryd.ntmps57 rfl ?_
  refine JC.seq ?_
  -- region 0
  refine JC.region ?_
  refine JL.val rfl rfl rfl (.none rfl) (Ev.assign rfl) ?_
  refine JL.val rfl rfl rfl (.none rfl) (Ev.assign rfl) ?_
  refine JL.val rfl rfl rfl (.none rfl) (Ev.assign rfl) ?_
  refine JL.nil ?_
  refine JQ.thenN ?_
  refine JC.seq ?_
  refine JC.seq ?_
  -- region 1
  refine JC.region ?_
  refine JL.val rfl rfl rfl (.none rfl) (Ev.move rfl) ?_
  refine JL.val rfl rfl rfl (.none rfl) (Ev.bin rfl rfl lss_int) ?_
  refine JL.val rfl rfl rfl (.none rfl) (Ev.move rfl) ?_
  refine JL.know (d := 12) (b := false) rfl ?_ ?_
  · exact decide_eq_false (by omega)
  refine JL.val rfl rfl rfl (.yes rfl rfl rfl) (Ev.move rfl) ?_
  refine JL.val rfl rfl rfl (.yes rfl rfl rfl) (Ev.bin rfl rfl gtr_int) ?_
  refine JL.val rfl rfl rfl (.none rfl) (Ev.pickF rfl rfl) ?_
  refine JL.val rfl rfl rfl (.none rfl) (Ev.move rfl) ?_
  refine JL.know (d := 16) (b := false) rfl ?_ ?_
  · exact decide_eq_false (by omega)
  refine JL.val rfl rfl rfl (.yes rfl rfl rfl) (Ev.move rfl) ?_
  refine JL.val rfl rfl rfl (.yes rfl rfl rfl) (Ev.bin rfl rfl lss_int) ?_
  refine JL.val rfl rfl rfl (.none rfl) (Ev.pickF rfl rfl) ?_
  refine JL.val rfl rfl rfl (.none rfl) (Ev.move rfl) ?_
  refine JL.know (d := 20) (b := false) rfl ?_ ?_
  · exact decide_eq_false (by omega)
  refine JL.val rfl rfl rfl (.yes rfl rfl rfl) (Ev.move rfl) ?_
  refine JL.val rfl rfl rfl (.yes rfl rfl rfl) (Ev.move rfl) ?_
  refine JL.val rfl rfl rfl (.yes rfl rfl rfl) (Ev.lenS rfl Tryd.underlying88) ?_
  refine JL.val rfl rfl rfl (.yes rfl rfl rfl) (Ev.bin rfl rfl gtr_int) ?_
  refine JL.val rfl rfl rfl (.none rfl) (Ev.pickF rfl rfl) ?_
  refine JL.nil ?_
  refine JQ.thenN ?_
  refine JC.knowF rfl ?_ ?_
  · exact decide_eq_false (by omega)
  refine JC.skip ?_
  refine JQ.thenN ?_
  refine JC.seq ?_
  refine JC.seq ?_
  -- region 3
  refine JC.region ?_
  refine JL.val rfl rfl rfl (.none rfl) (Ev.move rfl) ?_
  refine JL.val rfl rfl rfl (.none rfl) (Ev.lenS rfl Tryd.underlying88) ?_
  refine JL.val rfl rfl rfl (.none rfl) (Ev.move rfl) ?_
  refine JL.val rfl rfl rfl (.none rfl) (Ev.bin rfl rfl (sub_i64 (by omega))) ?_
  refine JL.val rfl rfl rfl (.none rfl) (Ev.move rfl) ?_
  refine JL.val rfl rfl rfl (.none rfl) (Ev.bin rfl rfl lss_int) ?_
  refine JL.nil ?_
  refine JQ.thenN ?_
  refine JC.knowF rfl ?_ ?_
  · exact decide_eq_false (by omega)
  refine JC.skip ?_
  refine JQ.thenN ?_
  refine JC.seq ?_
  refine JC.seq ?_
  -- region 5
  refine JC.region ?_
  refine JL.val rfl rfl rfl (.none rfl) (Ev.move rfl) ?_
  refine JL.val rfl rfl rfl (.none rfl) (Ev.move rfl) ?_
  refine JL.nil ?_
  refine JQ.thenN ?_
  refine JC.block ?_
  refine JC.loop (X := Nat)
    (fun k => [(0, .slice (some a) l.length cap), (1, .int .i64 (i : Int)), (2, .int .i64 (size : Int)), (6, u64 (numB ((l.drop i).take k))), (32, .int .i64 (size : Int)), (33, .int .i64 (k : Int))])
    (fun k => [])
    (fun k => k ≤ size)
    (fun k => size - k) 0 ?_ ?_ ?_ ?_
  · exact Keeps.get (by repeat (first | exact Keeps.nil | refine Keeps.cons rfl ?_))
  · first | exact Sub.all | exact Sub.of_cnt (fun a => by (try dsimp only); simp only [cntA]; omega) | repeat (first | exact Sub.nil | refine Sub.cons (by first | exact .here | exact .there .here | exact .there (.there .here) | exact .there (.there (.there .here)) | exact .there (.there (.there (.there .here)))) ?_ | exact Sub.all)
  · exact Nat.zero_le _
  rintro k hk
  refine JC.seq ?_
  -- region 6
  refine JC.region ?_
  refine JL.val rfl rfl rfl (.none rfl) (Ev.bin rfl rfl lss_int) ?_
  refine JL.nil ?_
  refine JQ.thenN ?_
  refine JC.seq ?_
  refine JC.cond rfl (fun hc1 => ?_) (fun hc1 => ?_)
  · -- t34 True
    replace hc1 := of_decide_eq_true hc1
    have hks : k < size := by omega
    refine JC.skip ?_
    refine JQ.thenN ?_
    refine JC.seq ?_
    refine JC.block ?_
    refine JC.seq ?_
    -- region 7
    refine JC.region ?_
    refine JL.val rfl rfl rfl (.none rfl) (Ev.move rfl) ?_
    refine JL.val rfl rfl rfl (.none rfl) (Ev.assign rfl) ?_
    refine JL.nil ?_
    refine JQ.thenN ?_
    -- region 8
    refine JC.region ?_
    refine JL.val rfl rfl rfl (.none rfl) (Ev.move rfl) ?_
    refine JL.val rfl rfl rfl (.none rfl) (Ev.bin rfl rfl (shl_u64 (n := 8) (by decide))) ?_
    refine JL.val rfl rfl rfl (.none rfl) (Ev.move rfl) ?_
    refine JL.val rfl rfl rfl (.none rfl) (Ev.move rfl) ?_
    refine JL.val rfl rfl rfl (.none rfl) (Ev.move rfl) ?_
    refine JL.val rfl rfl rfl (.none rfl) (Ev.bin rfl rfl (add_i64 (by omega))) ?_
    refine JL.val rfl rfl rfl (.none rfl) (Ev.idxS1 rfl rfl Tryd.underlying88 Tryd.sizeOf5 (k := i + k) (by omega) (by omega)) ?_
    refine JL.val rfl rfl rfl (.none rfl) (Ev.load1 rfl Tryd.underlying5 rfl (Rd.old ((hb.mem a rfl).at (by omega)))) ?_
    refine JL.val rfl rfl rfl (.none rfl) (Ev.conv rfl (conv_u8_u64 Tryd.underlying5 Tryd.underlying51)) ?_
    refine JL.val rfl rfl rfl (.none rfl) (Ev.bin rfl rfl or_u64) ?_
    refine JL.val rfl rfl rfl (.none rfl) (Ev.assign rfl) ?_
    refine JL.nil ?_
    refine JQ.blockN ?_
    refine JQ.thenN ?_
    -- region 9
    refine JC.region ?_
    refine JL.val rfl rfl rfl (.none rfl) (Ev.bin rfl rfl (add_i64 (by omega))) ?_
    refine JL.val rfl rfl rfl (.none rfl) (Ev.move rfl) ?_
    refine JL.nil ?_
    refine JQ.re (d := 6) (v' := u64 (numB ((l.drop i).take (k + 1)))) rfl (congrArg u64 (by rw [numB_succ _ (by rw [List.length_drop]; omega), getD_drop]; exact shl8_or _ _)) ?_
    refine JQ.loopN (k + 1) ?_ ?_ ?_ ?_
    · exact Keeps.get (by repeat (first | exact Keeps.nil | refine Keeps.cons rfl ?_))
    · first | exact Sub.all | exact Sub.of_cnt (fun a => by (try dsimp only); simp only [cntA]; omega) | repeat (first | exact Sub.nil | refine Sub.cons (by first | exact .here | exact .there .here | exact .there (.there .here) | exact .there (.there (.there .here)) | exact .there (.there (.there (.there .here)))) ?_ | exact Sub.all)
    · omega
    · omega
  · -- t34 False
    replace hc1 := of_decide_eq_false hc1
    obtain rfl : k = size := by omega
    refine JC.exit ?_
    refine JQ.thenE ?_
    refine JQ.thenE ?_
    refine JQ.blockE ?_
    refine JQ.thenN ?_
    refine JC.seq ?_
    -- region 10
    refine JC.region ?_
    refine JL.val rfl rfl rfl (.none rfl) (Ev.move rfl) ?_
    refine JL.val rfl rfl rfl (.none rfl) (Ev.move rfl) ?_
    refine JL.val rfl rfl rfl (.none rfl) (Ev.move rfl) ?_
    refine JL.val rfl rfl rfl (.none rfl) (Ev.bin rfl rfl (add_i64 (by omega))) ?_
    refine JL.re (d := 50) (v' := .int .i64 ((i + k : Nat) : Int)) rfl (congrArg (Value.int .i64) (by omega)) ?_
    refine JL.val rfl rfl rfl (.none rfl) (Ev.assign rfl) ?_
    refine JL.val rfl rfl rfl (.none rfl) (Ev.assign rfl) ?_
    refine JL.val rfl rfl rfl (.none rfl) (Ev.assign rfl) ?_
    refine JL.nil ?_
    refine JQ.thenN ?_
    refine JC.ret ?_
    refine JQ.end3 (H' := []) (.inl rfl) rfl (.tmp rfl) (.tmp rfl) (.tmp rfl) ?_ ?_
    · first | exact Sub.all | exact Sub.of_cnt (fun a => by (try dsimp only); simp only [cntA]; omega) | repeat (first | exact Sub.nil | refine Sub.cons (by first | exact .here | exact .there .here | exact .there (.there .here) | exact .there (.there (.there .here)) | exact .there (.there (.there (.there .here)))) ?_ | exact Sub.all)
    · exact rfl

end Go.Proofs.YtjjoenbighmfoaaDoor
