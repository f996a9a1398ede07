/-
  Numbers read out of bytes and put behind them; a try; the number drawn, in the program and in the reference.
-/
import Derived.Test.YtjjoenbighmfoaaDoorOct3Po
import Derived.Test.YtjjoenbighmfoaaDoorPackCPo
import Derived.Test.YtjjoenbighmfoaaDoorPackAPo
namespace Go.Proofs.YtjjoenbighmfoaaDoor
open Go Go.RowKit
set_option maxRecDepth 100000

theorem shr32 {n : UInt64} (hn : n.toNat < 4294967296) : (n >>> UInt64.ofNat 32).toNat = 0 := by
  rw [UInt64.toNat_shiftRight]
  have e : (UInt64.ofNat 32).toNat % 64 = 32 := rfl
  rw [e, Nat.shiftRight_eq_div_pow]
  omega
theorem bs_pre {w0 w : World} {H : Blocks} {b m n : Nat} {t : TypeId} {l : List UInt8} (hw : Hp w0 H w) {fr : Nat × Nat} (hm : (b, Obj.cells (arr8 l) t fr) ∈ H) (hn : n ≤ l.length) (hc : n ≤ m ∧ m ≤ 1000000) : Bs w (some ⟨b, 0, none⟩) m (l.take n) := by
  refine ⟨by rw [List.length_take]; omega, Nat.le_trans hc.2 (by decide), fun h => (by cases h), fun a ha => ?_⟩
  cases ha
  exact BMem.take (Mem.own hw hm fun j v hj => by simpa [arr8] using hj) _

theorem number_any (oa : Option Addr) (cap : Nat) (l : List UInt8) (w : World) (hb : Bs w oa cap l) (hl : l.length ≤ 1000000) :
    Calls Tryd.prog 65 #[.slice oa l.length cap] w (Ret w (fun v _ => v = u64 (numB l))) := by
  refine enter (vs := [.slice oa l.length cap]) Tryd.func65 rfl Tryd.ntmps65 rfl ?_
  refine JC.seq ?_
  -- region 0
  refine JC.region ?_
  refine JL.val rfl rfl rfl (.none rfl) (Ev.assign rfl) ?_
  refine JL.nil ?_
  refine JQ.thenN ?_
  refine JC.seq ?_
  -- region 1
  refine JC.region ?_
  refine JL.val rfl rfl rfl (.none rfl) (Ev.assign rfl) ?_
  refine JL.nil ?_
  refine JQ.thenN ?_
  refine JC.seq ?_
  refine JC.seq ?_
  -- region 2
  refine JC.region ?_
  refine JL.val rfl rfl rfl (.none rfl) (Ev.assign rfl) ?_
  refine JL.nil ?_
  refine JQ.thenN ?_
  refine JC.block ?_
  refine JC.loop (X := Nat)
    (fun k => [(0, .slice oa l.length cap), (3, u64 (numB (l.take k))), (4, .int .i64 (k : Int))])
    (fun k => [])
    (fun k => k ≤ l.length)
    (fun k => l.length - k) 0 ?_ ?_ ?_ ?_
  · exact Keeps.get (by repeat (first | exact Keeps.nil | refine Keeps.cons rfl ?_))
  · first | exact Sub.all | exact Sub.of_cnt (fun a => by (try dsimp only); simp only [cntA]; omega) | repeat (first | exact Sub.nil | refine Sub.cons (by first | exact .here | exact .there .here | exact .there (.there .here) | exact .there (.there (.there .here)) | exact .there (.there (.there (.there .here)))) ?_ | exact Sub.all)
  · exact Nat.zero_le _
  rintro k hk
  refine JC.seq ?_
  refine JC.seq ?_
  -- region 3
  refine JC.region ?_
  refine JL.val rfl rfl rfl (.none rfl) (Ev.move rfl) ?_
  refine JL.val rfl rfl rfl (.none rfl) (Ev.move rfl) ?_
  refine JL.val rfl rfl rfl (.none rfl) (Ev.lenS rfl Tryd.underlying88) ?_
  refine JL.val rfl rfl rfl (.none rfl) (Ev.bin rfl rfl lss_int) ?_
  refine JL.nil ?_
  refine JQ.thenN ?_
  refine JC.cond rfl (fun hc1 => ?_) (fun hc1 => ?_)
  · -- t8 True
    replace hc1 := of_decide_eq_true hc1
    have hkl : k < l.length := by omega
    obtain ⟨a, rfl⟩ := hb.get_some (by omega)
    refine JC.skip ?_
    refine JQ.thenN ?_
    refine JC.seq ?_
    refine JC.block ?_
    -- region 5
    refine JC.region ?_
    refine JL.val rfl rfl rfl (.none rfl) (Ev.move rfl) ?_
    refine JL.val rfl rfl rfl (.none rfl) (Ev.bin rfl rfl (mul_u64 (y := 256))) ?_
    refine JL.val rfl rfl rfl (.none rfl) (Ev.move rfl) ?_
    refine JL.val rfl rfl rfl (.none rfl) (Ev.move rfl) ?_
    refine JL.val rfl rfl rfl (.none rfl) (Ev.idxS1 rfl rfl Tryd.underlying88 Tryd.sizeOf5 (k := k) rfl (by omega)) ?_
    refine JL.val rfl rfl rfl (.none rfl) (Ev.load1 rfl Tryd.underlying5 rfl (Rd.old ((hb.mem a rfl).at hkl))) ?_
    refine JL.val rfl rfl rfl (.none rfl) (Ev.conv rfl (conv_u8_u64 Tryd.underlying5 Tryd.underlying51)) ?_
    refine JL.val rfl rfl rfl (.none rfl) (Ev.bin rfl rfl add_u64) ?_
    refine JL.val rfl rfl rfl (.none rfl) (Ev.assign rfl) ?_
    refine JL.nil ?_
    refine JQ.blockN ?_
    refine JQ.thenN ?_
    -- region 4
    refine JC.region ?_
    refine JL.val rfl rfl rfl (.none rfl) (Ev.move rfl) ?_
    refine JL.val rfl rfl rfl (.none rfl) (Ev.bin rfl rfl (add_i64 (by omega))) ?_
    refine JL.val rfl rfl rfl (.none rfl) (Ev.assign rfl) ?_
    refine JL.nil ?_
    refine JQ.re (d := 3) (v' := u64 (numB (l.take (k + 1)))) rfl (congrArg u64 (numB_succ l hkl).symm) ?_
    refine JQ.loopN (k + 1) ?_ ?_ ?_ ?_
    · exact Keeps.get (by repeat (first | exact Keeps.nil | refine Keeps.cons rfl ?_))
    · first | exact Sub.all | exact Sub.of_cnt (fun a => by (try dsimp only); simp only [cntA]; omega) | repeat (first | exact Sub.nil | refine Sub.cons (by first | exact .here | exact .there .here | exact .there (.there .here) | exact .there (.there (.there .here)) | exact .there (.there (.there (.there .here)))) ?_ | exact Sub.all)
    · omega
    · omega
  · -- t8 False
    replace hc1 := of_decide_eq_false hc1
    obtain rfl : k = l.length := by omega
    refine JC.exit ?_
    refine JQ.thenE ?_
    refine JQ.thenE ?_
    refine JQ.blockE ?_
    refine JQ.thenN ?_
    refine JC.seq ?_
    -- region 6
    refine JC.region ?_
    refine JL.val rfl rfl rfl (.none rfl) (Ev.move rfl) ?_
    refine JL.val rfl rfl rfl (.none rfl) (Ev.assign rfl) ?_
    refine JL.nil ?_
    refine JQ.thenN ?_
    refine JC.ret ?_
    refine JQ.end1 (H' := []) (.inl rfl) rfl (.tmp rfl) ?_ ?_
    · first | exact Sub.all | exact Sub.of_cnt (fun a => by (try dsimp only); simp only [cntA]; omega) | repeat (first | exact Sub.nil | refine Sub.cons (by first | exact .here | exact .there .here | exact .there (.there .here) | exact .there (.there (.there .here)) | exact .there (.there (.there (.there .here)))) ?_ | exact Sub.all)
    · rw [List.take_of_length_le (Nat.le_refl _)]

theorem fits4_any (n : UInt64) (w : World) (hn : n.toNat < 4294967296) :
    Calls Tryd.prog 66 #[u64 n, .int .i64 4] w (Ret w (fun v _ => v = .bool true)) := by
  refine enter (vs := [u64 n, .int .i64 4]) Tryd.func66 rfl Tryd.ntmps66 rfl ?_
  refine JC.seq ?_
  -- region 0
  refine JC.region ?_
  refine JL.val rfl rfl rfl (.none rfl) (Ev.assign rfl) ?_
  refine JL.nil ?_
  refine JQ.thenN ?_
  refine JC.seq ?_
  -- region 1
  refine JC.region ?_
  refine JL.val rfl rfl rfl (.none rfl) (Ev.move rfl) ?_
  refine JL.val rfl rfl rfl (.none rfl) (Ev.bin rfl rfl geq_int) ?_
  refine JL.val rfl rfl rfl (.none rfl) (Ev.move rfl) ?_
  refine JL.know (d := 7) (b := true) rfl ?_ ?_
  · rfl
  refine JL.val rfl rfl rfl (.yes rfl rfl rfl) (Ev.move rfl) ?_
  refine JL.val rfl rfl rfl (.yes rfl rfl rfl) (Ev.bin rfl rfl leq_int) ?_
  refine JL.val rfl rfl rfl (.none rfl) (Ev.pickT rfl rfl) ?_
  refine JL.val rfl rfl rfl (.none rfl) (Ev.move rfl) ?_
  refine JL.know (d := 11) (b := true) rfl ?_ ?_
  · rfl
  refine JL.val rfl rfl rfl (.yes rfl rfl rfl) (Ev.move rfl) ?_
  refine JL.val rfl rfl rfl (.yes rfl rfl rfl) (Ev.bin rfl rfl eql_int) ?_
  refine JL.val rfl rfl rfl (.yes rfl rfl rfl) (Ev.move rfl) ?_
  refine JL.know (d := 14) (b := false) rfl ?_ ?_
  · rfl
  refine JL.val rfl rfl rfl (.yes rfl rfl rfl) (Ev.move rfl) ?_
  refine JL.val rfl rfl rfl (.yes rfl rfl rfl) (Ev.move rfl) ?_
  refine JL.val rfl rfl rfl (.yes rfl rfl rfl) (Ev.bin rfl rfl (mul_i64 (by omega))) ?_
  refine JL.val rfl rfl rfl (.yes rfl rfl rfl) (Ev.bin rfl rfl (shr_u64 (n := 32) (by omega))) ?_
  refine JL.val rfl rfl rfl (.yes rfl rfl rfl) (Ev.bin rfl rfl eql_int) ?_
  refine JL.know (d := 14) (b := false) rfl rfl ?_
  refine JL.know (d := 19) (b := true) rfl (decide_eq_true (congrArg (fun n : Nat => (n : Int)) (shr32 hn))) ?_
  refine JL.val rfl rfl rfl (.yes rfl rfl rfl) (Ev.pickF rfl rfl) ?_
  refine JL.val rfl rfl rfl (.none rfl) (Ev.pickT rfl rfl) ?_
  refine JL.val rfl rfl rfl (.none rfl) (Ev.assign rfl) ?_
  refine JL.nil ?_
  refine JQ.thenN ?_
  refine JC.ret ?_
  refine JQ.end1 (H' := []) (.inl rfl) rfl (.tmp rfl) ?_ ?_
  · first | exact Sub.all | exact Sub.of_cnt (fun a => by (try dsimp only); simp only [cntA]; omega) | repeat (first | exact Sub.nil | refine Sub.cons (by first | exact .here | exact .there .here | exact .there (.there .here) | exact .there (.there (.there .here)) | exact .there (.there (.there (.there .here)))) ?_ | exact Sub.all)
  · exact rfl

theorem put4_any (oa : Option Addr) (cap : Nat) (l : List UInt8) (w : World) (hb : Bs w oa cap l) (hl : l.length ≤ 10000) (n : UInt64) (hn : n.toNat < 4294967296) :
    Calls Tryd.prog 55 #[.slice oa l.length cap, u64 n, .int .i64 4] w (Ret w (fun v H => ∃ r1 : Option Row, v = .tuple #[Row.v (l.length + 4) r1, .int .i64 0] ∧ H = Row.b 5 r1 ∧ Row.ok 1 (l.length + 4) ((l ++ be n 4).map u8) r1)) := by
  refine enter (vs := [.slice oa l.length cap, u64 n, .int .i64 4]) Tryd.func55 rfl Tryd.ntmps55 rfl ?_
  refine JC.seq ?_
  -- region 0
  refine JC.region ?_
  refine JL.val rfl rfl rfl (.none rfl) (Ev.assign rfl) ?_
  refine JL.val rfl rfl rfl (.none rfl) (Ev.assign rfl) ?_
  refine JL.nil ?_
  refine JQ.thenN ?_
  refine JC.seq ?_
  refine JC.seq ?_
  -- region 1
  refine JC.region ?_
  refine JL.val rfl rfl rfl (.none rfl) (Ev.move rfl) ?_
  refine JL.val rfl rfl rfl (.none rfl) (Ev.move rfl) ?_
  refine JL.callV rfl (.none rfl) rfl Tryd.call66 (fun w1 hw1 => fits4_any n w1 hn) ?_
  refine JL.val rfl rfl rfl (.none rfl) (Ev.not rfl) ?_
  refine JL.nil ?_
  refine JQ.thenN ?_
  refine JC.knowF rfl ?_ ?_
  · rfl
  refine JC.skip ?_
  refine JQ.thenN ?_
  refine JC.seq ?_
  refine JC.seq ?_
  -- region 3
  refine JC.region ?_
  refine JL.val rfl rfl rfl (.none rfl) (Ev.move rfl) ?_
  refine JL.val rfl rfl rfl (.none rfl) (Ev.lenS rfl Tryd.underlying88) ?_
  refine JL.val rfl rfl rfl (.none rfl) (Ev.move rfl) ?_
  refine JL.val rfl rfl rfl (.none rfl) (Ev.bin rfl rfl (sub_i64 (by omega))) ?_
  refine JL.val rfl rfl rfl (.none rfl) (Ev.bin rfl rfl gtr_int) ?_
  refine JL.nil ?_
  refine JQ.thenN ?_
  refine JC.knowF rfl ?_ ?_
  · exact decide_eq_false (by omega)
  refine JC.skip ?_
  refine JQ.thenN ?_
  refine JC.seq ?_
  -- region 5
  refine JC.region ?_
  refine JL.val rfl rfl rfl (.none rfl) (Ev.move rfl) ?_
  refine JL.callN rfl (.none rfl) rfl Tryd.call68 (fun w1 hw1 => clone_any oa cap l w1 (hb.old hw1) (by omega)) ?_
  rintro _ _ ⟨r0, rfl, rfl, hr0⟩
  refine JL.val rfl rfl rfl (.none rfl) (Ev.move rfl) ?_
  refine JL.val rfl rfl rfl (.none rfl) (Ev.move rfl) ?_
  refine JL.call rfl (.none rfl) rfl Tryd.call67 (fun w1 hw1 => put_any w w1 [] r0 l.length l n 4 (by decide) (by omega) hr0 hw1) ?_
  rintro _ _ ⟨r1, rfl, rfl, hr1⟩
  refine JL.val rfl rfl rfl (.none rfl) (Ev.assign rfl) ?_
  refine JL.val rfl rfl rfl (.none rfl) (Ev.assign rfl) ?_
  refine JL.nil ?_
  refine JQ.thenN ?_
  refine JC.ret ?_
  refine JQ.end2 (H' := (Row.b 5 r1)) (.inl rfl) rfl (.tmp rfl) (.tmp rfl) ?_ ?_
  · exact Sub.of_cnt (fun a => by (try dsimp only); simp only [cntA]; omega)
  · exact ⟨r1, rfl, rfl, hr1⟩

theorem take_any (a : Addr) (cap : Nat) (l : List UInt8) (w : World) (hb : Bs w (some a) cap l) (hl : l.length ≤ 1000000) (i size : Nat) (h1 : 1 ≤ size) (h8 : size ≤ 8) (hi : i + size ≤ l.length) :
    Calls Tryd.prog 57 #[.slice (some a) l.length cap, .int .i64 (i : Int), .int .i64 (size : Int)] w (Ret w (fun v _ => v = .tuple #[u64 (numB ((l.drop i).take size)), .int .i64 ((i + size : Nat) : Int), .int .i64 0])) := by
  refine enter (vs := [.slice (some a) l.length cap, .int .i64 (i : Int), .int .i64 (size : Int)]) Tryd.func57 rfl Tryd.ntmps57 rfl ?_
  refine JC.seq ?_
  -- region 0
  refine JC.region ?_
  refine JL.val rfl rfl rfl (.none rfl) (Ev.assign rfl) ?_
  refine JL.val rfl rfl rfl (.none rfl) (Ev.assign rfl) ?_
  refine JL.val rfl rfl rfl (.none rfl) (Ev.assign rfl) ?_
  refine JL.nil ?_
  refine JQ.thenN ?_
  refine JC.seq ?_
  refine JC.seq ?_
  -- region 1
  refine JC.region ?_
  refine JL.val rfl rfl rfl (.none rfl) (Ev.move rfl) ?_
  refine JL.val rfl rfl rfl (.none rfl) (Ev.bin rfl rfl lss_int) ?_
  refine JL.val rfl rfl rfl (.none rfl) (Ev.move rfl) ?_
  refine JL.know (d := 12) (b := false) rfl ?_ ?_
  · exact decide_eq_false (by omega)
  refine JL.val rfl rfl rfl (.yes rfl rfl rfl) (Ev.move rfl) ?_
  refine JL.val rfl rfl rfl (.yes rfl rfl rfl) (Ev.bin rfl rfl gtr_int) ?_
  refine JL.val rfl rfl rfl (.none rfl) (Ev.pickF rfl rfl) ?_
  refine JL.val rfl rfl rfl (.none rfl) (Ev.move rfl) ?_
  refine JL.know (d := 16) (b := false) rfl ?_ ?_
  · exact decide_eq_false (by omega)
  refine JL.val rfl rfl rfl (.yes rfl rfl rfl) (Ev.move rfl) ?_
  refine JL.val rfl rfl rfl (.yes rfl rfl rfl) (Ev.bin rfl rfl lss_int) ?_
  refine JL.val rfl rfl rfl (.none rfl) (Ev.pickF rfl rfl) ?_
  refine JL.val rfl rfl rfl (.none rfl) (Ev.move rfl) ?_
  refine JL.know (d := 20) (b := false) rfl ?_ ?_
  · exact decide_eq_false (by omega)
  refine JL.val rfl rfl rfl (.yes rfl rfl rfl) (Ev.move rfl) ?_
  refine JL.val rfl rfl rfl (.yes rfl rfl rfl) (Ev.move rfl) ?_
  refine JL.val rfl rfl rfl (.yes rfl rfl rfl) (Ev.lenS rfl Tryd.underlying88) ?_
  refine JL.val rfl rfl rfl (.yes rfl rfl rfl) (Ev.bin rfl rfl gtr_int) ?_
  refine JL.val rfl rfl rfl (.none rfl) (Ev.pickF rfl rfl) ?_
  refine JL.nil ?_
  refine JQ.thenN ?_
  refine JC.knowF rfl ?_ ?_
  · exact decide_eq_false (by omega)
  refine JC.skip ?_
  refine JQ.thenN ?_
  refine JC.seq ?_
  refine JC.seq ?_
  -- region 3
  refine JC.region ?_
  refine JL.val rfl rfl rfl (.none rfl) (Ev.move rfl) ?_
  refine JL.val rfl rfl rfl (.none rfl) (Ev.lenS rfl Tryd.underlying88) ?_
  refine JL.val rfl rfl rfl (.none rfl) (Ev.move rfl) ?_
  refine JL.val rfl rfl rfl (.none rfl) (Ev.bin rfl rfl (sub_i64 (by omega))) ?_
  refine JL.val rfl rfl rfl (.none rfl) (Ev.move rfl) ?_
  refine JL.val rfl rfl rfl (.none rfl) (Ev.bin rfl rfl lss_int) ?_
  refine JL.nil ?_
  refine JQ.thenN ?_
  refine JC.knowF rfl ?_ ?_
  · exact decide_eq_false (by omega)
  refine JC.skip ?_
  refine JQ.thenN ?_
  refine JC.seq ?_
  refine JC.seq ?_
  -- region 5
  refine JC.region ?_
  refine JL.val rfl rfl rfl (.none rfl) (Ev.move rfl) ?_
  refine JL.val rfl rfl rfl (.none rfl) (Ev.move rfl) ?_
  refine JL.nil ?_
  refine JQ.thenN ?_
  refine JC.block ?_
  refine JC.loop (X := Nat)
    (fun k => [(0, .slice (some a) l.length cap), (1, .int .i64 (i : Int)), (2, .int .i64 (size : Int)), (6, u64 (numB ((l.drop i).take k))), (32, .int .i64 (size : Int)), (33, .int .i64 (k : Int))])
    (fun k => [])
    (fun k => k ≤ size)
    (fun k => size - k) 0 ?_ ?_ ?_ ?_
  · exact Keeps.get (by repeat (first | exact Keeps.nil | refine Keeps.cons rfl ?_))
  · first | exact Sub.all | exact Sub.of_cnt (fun a => by (try dsimp only); simp only [cntA]; omega) | repeat (first | exact Sub.nil | refine Sub.cons (by first | exact .here | exact .there .here | exact .there (.there .here) | exact .there (.there (.there .here)) | exact .there (.there (.there (.there .here)))) ?_ | exact Sub.all)
  · exact Nat.zero_le _
  rintro k hk
  refine JC.seq ?_
  -- region 6
  refine JC.region ?_
  refine JL.val rfl rfl rfl (.none rfl) (Ev.bin rfl rfl lss_int) ?_
  refine JL.nil ?_
  refine JQ.thenN ?_
  refine JC.seq ?_
  refine JC.cond rfl (fun hc1 => ?_) (fun hc1 => ?_)
  · -- t34 True
    replace hc1 := of_decide_eq_true hc1
    have hks : k < size := by omega
    refine JC.skip ?_
    refine JQ.thenN ?_
    refine JC.seq ?_
    refine JC.block ?_
    refine JC.seq ?_
    -- region 7
    refine JC.region ?_
    refine JL.val rfl rfl rfl (.none rfl) (Ev.move rfl) ?_
    refine JL.val rfl rfl rfl (.none rfl) (Ev.assign rfl) ?_
    refine JL.nil ?_
    refine JQ.thenN ?_
    -- region 8
    refine JC.region ?_
    refine JL.val rfl rfl rfl (.none rfl) (Ev.move rfl) ?_
    refine JL.val rfl rfl rfl (.none rfl) (Ev.bin rfl rfl (shl_u64 (n := 8) (by decide))) ?_
    refine JL.val rfl rfl rfl (.none rfl) (Ev.move rfl) ?_
    refine JL.val rfl rfl rfl (.none rfl) (Ev.move rfl) ?_
    refine JL.val rfl rfl rfl (.none rfl) (Ev.move rfl) ?_
    refine JL.val rfl rfl rfl (.none rfl) (Ev.bin rfl rfl (add_i64 (by omega))) ?_
    refine JL.val rfl rfl rfl (.none rfl) (Ev.idxS1 rfl rfl Tryd.underlying88 Tryd.sizeOf5 (k := i + k) (by omega) (by omega)) ?_
    refine JL.val rfl rfl rfl (.none rfl) (Ev.load1 rfl Tryd.underlying5 rfl (Rd.old ((hb.mem a rfl).at (by omega)))) ?_
    refine JL.val rfl rfl rfl (.none rfl) (Ev.conv rfl (conv_u8_u64 Tryd.underlying5 Tryd.underlying51)) ?_
    refine JL.val rfl rfl rfl (.none rfl) (Ev.bin rfl rfl or_u64) ?_
    refine JL.val rfl rfl rfl (.none rfl) (Ev.assign rfl) ?_
    refine JL.nil ?_
    refine JQ.blockN ?_
    refine JQ.thenN ?_
    -- region 9
    refine JC.region ?_
    refine JL.val rfl rfl rfl (.none rfl) (Ev.bin rfl rfl (add_i64 (by omega))) ?_
    refine JL.val rfl rfl rfl (.none rfl) (Ev.move rfl) ?_
    refine JL.nil ?_
    refine JQ.re (d := 6) (v' := u64 (numB ((l.drop i).take (k + 1)))) rfl (congrArg u64 (by rw [numB_succ _ (by rw [List.length_drop]; omega), getD_drop]; exact shl8_or _ _)) ?_
    refine JQ.loopN (k + 1) ?_ ?_ ?_ ?_
    · exact Keeps.get (by repeat (first | exact Keeps.nil | refine Keeps.cons rfl ?_))
    · first | exact Sub.all | exact Sub.of_cnt (fun a => by (try dsimp only); simp only [cntA]; omega) | repeat (first | exact Sub.nil | refine Sub.cons (by first | exact .here | exact .there .here | exact .there (.there .here) | exact .there (.there (.there .here)) | exact .there (.there (.there (.there .here)))) ?_ | exact Sub.all)
    · omega
    · omega
  · -- t34 False
    replace hc1 := of_decide_eq_false hc1
    obtain rfl : k = size := by omega
    refine JC.exit ?_
    refine JQ.thenE ?_
    refine JQ.thenE ?_
    refine JQ.blockE ?_
    refine JQ.thenN ?_
    refine JC.seq ?_
    -- region 10
    refine JC.region ?_
    refine JL.val rfl rfl rfl (.none rfl) (Ev.move rfl) ?_
    refine JL.val rfl rfl rfl (.none rfl) (Ev.move rfl) ?_
    refine JL.val rfl rfl rfl (.none rfl) (Ev.move rfl) ?_
    refine JL.val rfl rfl rfl (.none rfl) (Ev.bin rfl rfl (add_i64 (by omega))) ?_
    refine JL.re (d := 50) (v' := .int .i64 ((i + k : Nat) : Int)) rfl (congrArg (Value.int .i64) (by omega)) ?_
    refine JL.val rfl rfl rfl (.none rfl) (Ev.assign rfl) ?_
    refine JL.val rfl rfl rfl (.none rfl) (Ev.assign rfl) ?_
    refine JL.val rfl rfl rfl (.none rfl) (Ev.assign rfl) ?_
    refine JL.nil ?_
    refine JQ.thenN ?_
    refine JC.ret ?_
    refine JQ.end3 (H' := []) (.inl rfl) rfl (.tmp rfl) (.tmp rfl) (.tmp rfl) ?_ ?_
    · first | exact Sub.all | exact Sub.of_cnt (fun a => by (try dsimp only); simp only [cntA]; omega) | repeat (first | exact Sub.nil | refine Sub.cons (by first | exact .here | exact .there .here | exact .there (.there .here) | exact .there (.there (.there .here)) | exact .there (.there (.there (.there .here)))) ?_ | exact Sub.all)
    · exact rfl

theorem try_any (s : List UInt8) (hs : s.length = 32) (i : UInt32) (k : Nat) (hk : k < 16) (w : World) :
    Calls Tryd.prog 53 #[.agg (arr8 s), u32 i, .int .i64 (k : Int)] w (Ret w (fun v _ => v = u64 (tryD s i k))) := by
  refine enter (vs := [.agg (arr8 s), u32 i, .int .i64 (k : Int)]) Tryd.func53 rfl Tryd.ntmps53 rfl ?_
  refine JC.seq ?_
  -- region 0
  refine JC.region ?_
  refine JL.new rfl rfl rfl (.none rfl) (En.boxA rfl) (fun b3 hb3 => ?_)
  refine JL.val rfl rfl rfl (.none rfl) (Ev.assign rfl) ?_
  refine JL.nil ?_
  refine JQ.thenN ?_
  refine JC.seq ?_
  -- region 1
  refine JC.region ?_
  refine JL.val rfl rfl rfl (.none rfl) (Ev.sliceA rfl Tryd.underlying40 Tryd.sizeOf5) ?_
  refine JL.gen rfl rfl rfl (.none rfl) (Eg.append (r := none) (n := 0) (m := 32) (xs := []) (news := s.map u8) (z := (.int .u8 0)) (s := 1) (bytes := 1) rfl rfl rfl (by repeat (first | exact .last | exact .here | apply Cut.past | apply Cut.there)) Tryd.underlying88 (by kernel_rfl) rfl (by decide) (by decide) ⟨rfl, rfl⟩ (by simp [hs]) (fun ad had => by cases had; exact Rds.all (by repeat (first | exact List.Mem.head _ | refine List.Mem.tail _ ?_ | refine List.mem_append_right _ ?_ | assumption))) (fun h => by cases h) (u8s_one _) (by omega)) ?_
  rintro _ _ ⟨r10, rfl, rfl, hr10, hn10⟩
  refine JL.val rfl rfl rfl (.none rfl) (Ev.assign rfl) ?_
  refine JL.nil ?_
  refine JQ.thenN ?_
  refine JC.seq ?_
  -- region 2
  refine JC.region ?_
  refine JL.val rfl rfl rfl (.none rfl) (Ev.move rfl) ?_
  refine JL.val rfl rfl rfl (.none rfl) (Ev.move rfl) ?_
  refine JL.val rfl rfl rfl (.none rfl) (Ev.conv rfl (conv_u32_u64 Tryd.underlying41 Tryd.underlying51)) ?_
  refine JL.callN rfl (.none rfl) rfl Tryd.call63 (fun w1 hw1 => digits_any i.toUInt64 4 w1 (by decide)) ?_
  rintro _ _ ⟨q1, rfl, rfl, hq1⟩
  refine JL.gen rfl rfl rfl (.none rfl) (Eg.appendR (z := (.int .u8 0)) (s := 1) (bytes := 1) rfl rfl rfl rfl (by repeat (first | exact .last | exact .here | apply Cut.past | apply Cut.there)) Tryd.underlying88 (by kernel_rfl) rfl (by decide) (by decide) (by assumption) (by assumption) (fun p hp => by simp [hp]) (by intro u hu; first | exact fl_one _ u hu | exact u8s_one _ u hu | (simp at hu; subst hu; rfl)) (by omega)) ?_
  rintro _ _ ⟨r15, rfl, rfl, hr15, hn15⟩
  refine JL.val rfl rfl rfl (.none rfl) (Ev.assign rfl) ?_
  refine JL.nil ?_
  refine JQ.thenN ?_
  refine JC.seq ?_
  -- region 3
  refine JC.region ?_
  refine JL.val rfl rfl rfl (.none rfl) (Ev.move rfl) ?_
  refine JL.val rfl rfl rfl (.none rfl) (Ev.move rfl) ?_
  refine JL.val rfl rfl rfl (.none rfl) (Ev.conv rfl (conv_i64_u64 Tryd.underlying3 Tryd.underlying51 (by omega))) ?_
  refine JL.callN rfl (.none rfl) rfl Tryd.call63 (fun w1 hw1 => digits_any (UInt64.ofNat k) 4 w1 (by decide)) ?_
  rintro _ _ ⟨q2, rfl, rfl, hq2⟩
  refine JL.gen rfl rfl rfl (.none rfl) (Eg.appendR (z := (.int .u8 0)) (s := 1) (bytes := 1) rfl rfl rfl rfl (by repeat (first | exact .last | exact .here | apply Cut.past | apply Cut.there)) Tryd.underlying88 (by kernel_rfl) rfl (by decide) (by decide) (by assumption) (by assumption) (fun p hp => by simp [hp]) (by intro u hu; first | exact fl_one _ u hu | exact u8s_one _ u hu | (simp at hu; subst hu; rfl)) (by omega)) ?_
  rintro _ _ ⟨r20, rfl, rfl, hr20, hn20⟩
  refine JL.val rfl rfl rfl (.none rfl) (Ev.assign rfl) ?_
  refine JL.nil ?_
  refine JQ.thenN ?_
  refine JC.seq ?_
  -- region 4
  refine JC.region ?_
  obtain ⟨ox, cx, ex, hx0, hC⟩ := Row.vw (e := 5) (xs := (s ++ be i.toUInt64 4 ++ be (UInt64.ofNat k) 4).map u8) (by simpa using hr20)
  refine JL.re (d := 7) (v' := .slice ox (s ++ be i.toUInt64 4 ++ be (UInt64.ofNat k) 4).length cx) rfl (ex.trans (by simp [be_length, hs])) ?_
  refine JL.val rfl rfl rfl (.none rfl) (Ev.move rfl) ?_
  refine JL.callV rfl (.none rfl) rfl Tryd.call64 (fun w1 hw1 => of_any ox cx (s ++ be i.toUInt64 4 ++ be (UInt64.ofNat k) 4) w1 ((hC w1 hw1 (fun p hp => by simp [hp])).bs (by simp [be_length, hs])) (by simp [be_length]; omega)) ?_
  refine JL.new rfl rfl rfl (.none rfl) (En.allocZ (cs := arr8 (List.replicate 32 0)) Tryd.zeroValue40 rfl) (fun b8 hb8 => ?_)
  refine JL.sto rfl rfl (.none rfl) (Es.storeA rfl rfl Tryd.sizeOf40 (by repeat (first | exact .here | apply Upd.there | apply Upd.left)) (by rw [arr8_size, sha_length]) (by first | rfl | exact dig_size _ | (rw [arr8_size]; first | exact sha_length _ | exact shaO_length _ | assumption)) (arr8_one _)) ?_
  refine JL.nil ?_
  refine JQ.thenN ?_
  refine JC.seq ?_
  -- region 5
  refine JC.region ?_
  refine JL.val rfl rfl rfl (.none rfl) (Ev.sliceAHi rfl rfl Tryd.underlying40 Tryd.sizeOf5 (h := 8) rfl (by omega)) ?_
  refine JL.callV rfl (.none rfl) rfl Tryd.call65 (fun w1 hw1 => number_any (some ⟨b8, 0, none⟩) 32 ((sha (s ++ be i.toUInt64 4 ++ be (UInt64.ofNat k) 4)).take 8) w1 (bs_pre hw1 (by repeat (first | exact List.Mem.head _ | refine List.Mem.tail _ ?_ | refine List.mem_append_right _ ?_ | assumption)) (by rw [sha_length]; decide) (by decide)) (by simp; omega)) ?_
  refine JL.val rfl rfl rfl (.none rfl) (Ev.assign rfl) ?_
  refine JL.nil ?_
  refine JQ.thenN ?_
  refine JC.ret ?_
  refine JQ.end1 (H' := []) (.inl rfl) rfl (.tmp rfl) ?_ ?_
  · first | exact Sub.all | exact Sub.of_cnt (fun a => by (try dsimp only); simp only [cntA]; omega) | repeat (first | exact Sub.nil | refine Sub.cons (by first | exact .here | exact .there .here | exact .there (.there .here) | exact .there (.there (.there .here)) | exact .there (.there (.there (.there .here)))) ?_ | exact Sub.all)
  · exact rfl

theorem rDrawn_any (s : List UInt8) (hs : s.length = 32) (i : UInt32) (m : UInt64) (h1 : 1 ≤ m.toNat) (h2 : m.toNat ≤ 4294967296) (w : World) :
    Calls Tryd.prog 41 #[.agg (arr8 s), u32 i, u64 m] w (Ret w (fun v _ => v = .tuple #[u64 (drawnV s i m), .bool (drawn s i m).isSome])) := by
  have hm0 : m ≠ 0 := fun h => by rw [h] at h1; exact absurd h1 (by decide)
  refine enter (vs := [.agg (arr8 s), u32 i, u64 m]) Tryd.func41 rfl Tryd.ntmps41 rfl ?_
  refine JC.seq ?_
  -- region 0
  refine JC.region ?_
  refine JL.new rfl rfl rfl (.none rfl) (En.boxA rfl) (fun b3 hb3 => ?_)
  refine JL.val rfl rfl rfl (.none rfl) (Ev.assign rfl) ?_
  refine JL.val rfl rfl rfl (.none rfl) (Ev.assign rfl) ?_
  refine JL.nil ?_
  refine JQ.thenN ?_
  refine JC.seq ?_
  -- region 1
  refine JC.region ?_
  refine JL.val rfl rfl rfl (.none rfl) (Ev.move rfl) ?_
  refine JL.val rfl rfl rfl (.none rfl) (Ev.bin rfl rfl (rem_u64 (x := 18446744073709551615) hm0)) ?_
  refine JL.val rfl rfl rfl (.none rfl) (Ev.bin rfl rfl (add_u64 (y := 1))) ?_
  refine JL.val rfl rfl rfl (.none rfl) (Ev.move rfl) ?_
  refine JL.val rfl rfl rfl (.none rfl) (Ev.bin rfl rfl (rem_u64 hm0)) ?_
  refine JL.val rfl rfl rfl (.none rfl) (Ev.assign rfl) ?_
  refine JL.nil ?_
  refine JQ.thenN ?_
  refine JC.seq ?_
  refine JC.seq ?_
  -- region 2
  refine JC.region ?_
  refine JL.val rfl rfl rfl (.none rfl) (Ev.assign rfl) ?_
  refine JL.nil ?_
  refine JQ.thenN ?_
  refine JC.block ?_
  refine JC.loop (X := Nat)
    (fun k => [(3, .pointer (some ⟨b3, 0, none⟩)), (1, u32 i), (2, u64 m), (8, u64 ((18446744073709551615 % m + 1) % m)), (9, .int .i64 (k : Int))])
    (fun k => [(b3, .cells (arr8 s) 40 (0, 0))])
    (fun k => k ≤ 16 ∧ ∀ j, j < k → ¬ small m (tryD s i j))
    (fun k => 16 - k) 0 ?_ ?_ ?_ ?_
  · exact Keeps.get (by repeat (first | exact Keeps.nil | refine Keeps.cons rfl ?_))
  · first | exact Sub.all | exact Sub.of_cnt (fun a => by (try dsimp only); simp only [cntA]; omega) | repeat (first | exact Sub.nil | refine Sub.cons (by first | exact .here | exact .there .here | exact .there (.there .here) | exact .there (.there (.there .here)) | exact .there (.there (.there (.there .here)))) ?_ | exact Sub.all)
  · exact ⟨by omega, fun j hj => by omega⟩
  rintro k ⟨hk, hrej⟩
  refine JC.seq ?_
  refine JC.seq ?_
  -- region 3
  refine JC.region ?_
  refine JL.val rfl rfl rfl (.none rfl) (Ev.move rfl) ?_
  refine JL.val rfl rfl rfl (.none rfl) (Ev.bin rfl rfl lss_int) ?_
  refine JL.nil ?_
  refine JQ.thenN ?_
  refine JC.cond rfl (fun hc1 => ?_) (fun hc1 => ?_)
  · -- t17 True
    replace hc1 := of_decide_eq_true hc1
    refine JC.skip ?_
    refine JQ.thenN ?_
    refine JC.seq ?_
    refine JC.block ?_
    refine JC.seq ?_
    -- region 5
    refine JC.region ?_
    refine JL.val rfl rfl rfl (.none rfl) (Ev.loadB rfl (by repeat (first | exact List.Mem.head _ | refine List.Mem.tail _ ?_ | refine List.mem_append_right _ ?_ | assumption)) Tryd.underlying40 rfl Tryd.sizeOf40 (by rw [arr8_size, hs])) ?_
    refine JL.val rfl rfl rfl (.none rfl) (Ev.move rfl) ?_
    refine JL.val rfl rfl rfl (.none rfl) (Ev.move rfl) ?_
    refine JL.callV rfl (.none rfl) rfl Tryd.call53 (fun w1 hw1 => try_any s hs i k (by omega) w1) ?_
    refine JL.val rfl rfl rfl (.none rfl) (Ev.assign rfl) ?_
    refine JL.nil ?_
    refine JQ.thenN ?_
    refine JC.seq ?_
    -- region 6
    refine JC.region ?_
    refine JL.val rfl rfl rfl (.none rfl) (Ev.move rfl) ?_
    refine JL.val rfl rfl rfl (.none rfl) (Ev.move rfl) ?_
    refine JL.val rfl rfl rfl (.none rfl) (Ev.bin rfl rfl (sub_u64 (x := 18446744073709551615))) ?_
    refine JL.val rfl rfl rfl (.none rfl) (Ev.bin rfl rfl leq_int) ?_
    refine JL.nil ?_
    refine JQ.thenN ?_
    refine JC.cond rfl (fun hc2 => ?_) (fun hc2 => ?_)
    · -- t27 True
      replace hc2 := of_decide_eq_true hc2
      have hsm := (small_ref h1 h2).1 hc2
      have hdr := drawn_some (by omega) hrej hsm
      refine JC.seq ?_
      -- region 7
      refine JC.region ?_
      refine JL.val rfl rfl rfl (.none rfl) (Ev.move rfl) ?_
      refine JL.val rfl rfl rfl (.none rfl) (Ev.move rfl) ?_
      refine JL.val rfl rfl rfl (.none rfl) (Ev.bin rfl rfl (rem_u64 hm0)) ?_
      refine JL.val rfl rfl rfl (.none rfl) (Ev.assign rfl) ?_
      refine JL.val rfl rfl rfl (.none rfl) (Ev.assign rfl) ?_
      refine JL.nil ?_
      refine JQ.thenN ?_
      refine JC.ret ?_
      refine JQ.blockR ?_
      refine JQ.thenR ?_
      refine JQ.thenR ?_
      refine JQ.blockR ?_
      refine JQ.thenR ?_
      refine JQ.end2 (H' := []) (.inl rfl) rfl (.tmp rfl) (.tmp rfl) ?_ ?_
      · first | exact Sub.all | exact Sub.of_cnt (fun a => by (try dsimp only); simp only [cntA]; omega) | repeat (first | exact Sub.nil | refine Sub.cons (by first | exact .here | exact .there .here | exact .there (.there .here) | exact .there (.there (.there .here)) | exact .there (.there (.there (.there .here)))) ?_ | exact Sub.all)
      · simp [drawnV, hdr, u64]
    · -- t27 False
      replace hc2 := of_decide_eq_false hc2
      have hns : ¬ small m (tryD s i k) := fun h => hc2 ((small_ref h1 h2).2 h)
      refine JC.skip ?_
      refine JQ.blockN ?_
      refine JQ.thenN ?_
      -- region 4
      refine JC.region ?_
      refine JL.val rfl rfl rfl (.none rfl) (Ev.move rfl) ?_
      refine JL.val rfl rfl rfl (.none rfl) (Ev.bin rfl rfl (add_i64 (by omega))) ?_
      refine JL.val rfl rfl rfl (.none rfl) (Ev.assign rfl) ?_
      refine JL.nil ?_
      refine JQ.loopN (k + 1) ?_ ?_ ?_ ?_
      · exact Keeps.get (by repeat (first | exact Keeps.nil | refine Keeps.cons rfl ?_))
      · first | exact Sub.all | exact Sub.of_cnt (fun a => by (try dsimp only); simp only [cntA]; omega) | repeat (first | exact Sub.nil | refine Sub.cons (by first | exact .here | exact .there .here | exact .there (.there .here) | exact .there (.there (.there .here)) | exact .there (.there (.there (.there .here)))) ?_ | exact Sub.all)
      · exact ⟨by omega, all_succ hrej hns⟩
      · omega
  · -- t17 False
    replace hc1 := of_decide_eq_false hc1
    have hdr := drawn_none (m := m) (s := s) (i := i) (fun j hj => hrej j (by omega))
    refine JC.exit ?_
    refine JQ.thenE ?_
    refine JQ.thenE ?_
    refine JQ.blockE ?_
    refine JQ.thenN ?_
    refine JC.seq ?_
    -- region 8
    refine JC.region ?_
    refine JL.val rfl rfl rfl (.none rfl) (Ev.assign rfl) ?_
    refine JL.val rfl rfl rfl (.none rfl) (Ev.assign rfl) ?_
    refine JL.nil ?_
    refine JQ.thenN ?_
    refine JC.ret ?_
    refine JQ.end2 (H' := []) (.inl rfl) rfl (.tmp rfl) (.tmp rfl) ?_ ?_
    · first | exact Sub.all | exact Sub.of_cnt (fun a => by (try dsimp only); simp only [cntA]; omega) | repeat (first | exact Sub.nil | refine Sub.cons (by first | exact .here | exact .there .here | exact .there (.there .here) | exact .there (.there (.there .here)) | exact .there (.there (.there (.there .here)))) ?_ | exact Sub.all)
    · simp [drawnV, hdr, u64]

end Go.Proofs.YtjjoenbighmfoaaDoor
