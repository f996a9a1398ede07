/-
  Counts of bits; the greatest power of two below a number, in the program and in the statements.
-/
import Derived.Test.YtopaednfjjjnbaaDoorMer3Nm
import Derived.Test.YtopaednfjjjnbaaDoorPackDNm
namespace Go.Proofs.YtopaednfjjjnbaaDoor
open Go Go.RowKit
set_option maxRecDepth 100000

theorem ofNat_small {n : Nat} (h : n < 18446744073709551616) : (UInt64.ofNat n).toNat = n := by rw [UInt64.toNat_ofNat']; omega
theorem log2_small {n : Nat} (h : n < 65536) : Nat.log2 n < 16 := by
  by_cases h0 : n = 0
  · subst h0; decide
  · have h3 := (Nat.log2_eq_iff h0).1 rfl
    have : 2 ^ Nat.log2 n < 2 ^ 16 := by omega
    exact (Nat.pow_lt_pow_iff_right (a := 2) (by decide)).1 this
theorem u8_len8 {n : Nat} (h : n < 256) : (UInt8.ofNat (len8 n)).toNat = len8 n := by
  have := len8_le h
  rw [UInt8.toNat_ofNat']
  omega
theorem len64_small {x : UInt64} (h : x.toNat < 256) : (UInt8.ofNat (len8 x.toUInt8.toNat)).toNat = len8 x.toNat := by
  have e : x.toUInt8.toNat = x.toNat := by rw [UInt64.toNat_toUInt8]; omega
  rw [e, u8_len8 h]
theorem len64_big {x : UInt64} (h : 256 ≤ x.toNat) (h1 : x.toNat < 65536) : 8 + (UInt8.ofNat (len8 (x >>> UInt64.ofNat 8).toUInt8.toNat)).toNat = len8 x.toNat := by
  have e : (x >>> UInt64.ofNat 8).toUInt8.toNat = x.toNat / 256 := by
    rw [UInt64.toNat_toUInt8, UInt64.toNat_shiftRight]
    show x.toNat >>> 8 % 2 ^ 8 = _
    rw [Nat.shiftRight_eq_div_pow]
    omega
  rw [e, u8_len8 (by omega), len8_shift h h1]

theorem len64_any (x : UInt64) (hx : x.toNat < 65536) (w : World) :
    Calls Tryd.prog 172 #[u64 x] w (Ret w (fun v _ => v = .int .i64 ((len8 x.toNat : Nat) : Int))) := by
  refine enter (vs := [u64 x]) Tryd.func172 rfl Tryd.ntmps172 rfl ?_
  refine JC.seq ?_
  -- region 0
  refine JC.region ?_
  refine JL.val rfl rfl rfl (.none rfl) (Ev.assign rfl) ?_
  refine JL.nil ?_
  refine JQ.thenN ?_
  refine JC.seq ?_
  refine JC.seq ?_
  -- region 1
  refine JC.region ?_
  refine JL.val rfl rfl rfl (.none rfl) (Ev.move rfl) ?_
  refine JL.val rfl rfl rfl (.none rfl) (Ev.bin rfl rfl geq_int) ?_
  refine JL.nil ?_
  refine JQ.thenN ?_
  refine JC.knowF rfl ?_ ?_
  · exact decide_eq_false (by omega)
  refine JC.skip ?_
  refine JQ.thenN ?_
  refine JC.seq ?_
  refine JC.seq ?_
  -- region 4
  refine JC.region ?_
  refine JL.val rfl rfl rfl (.none rfl) (Ev.move rfl) ?_
  refine JL.val rfl rfl rfl (.none rfl) (Ev.bin rfl rfl geq_int) ?_
  refine JL.nil ?_
  refine JQ.thenN ?_
  refine JC.knowF rfl ?_ ?_
  · exact decide_eq_false (by omega)
  refine JC.skip ?_
  refine JQ.thenN ?_
  refine JC.seq ?_
  refine JC.seq ?_
  -- region 7
  refine JC.region ?_
  refine JL.val rfl rfl rfl (.none rfl) (Ev.move rfl) ?_
  refine JL.val rfl rfl rfl (.none rfl) (Ev.bin rfl rfl geq_int) ?_
  refine JL.nil ?_
  refine JQ.thenN ?_
  refine JC.cond rfl (fun hc1 => ?_) (fun hc1 => ?_)
  · -- t14 True
    replace hc1 := of_decide_eq_true hc1
    have h256 : 256 ≤ x.toNat := by omega
    refine JC.seq ?_
    -- region 8
    refine JC.region ?_
    refine JL.val rfl rfl rfl (.none rfl) (Ev.move rfl) ?_
    refine JL.val rfl rfl rfl (.none rfl) (Ev.bin rfl rfl (shr_u64 (n := 8) (by decide))) ?_
    refine JL.val rfl rfl rfl (.none rfl) (Ev.assign rfl) ?_
    refine JL.nil ?_
    refine JQ.thenN ?_
    -- region 9
    refine JC.region ?_
    refine JL.val rfl rfl rfl (.none rfl) (Ev.move rfl) ?_
    refine JL.val rfl rfl rfl (.none rfl) (Ev.bin rfl rfl (add_i64 (by omega))) ?_
    refine JL.val rfl rfl rfl (.none rfl) (Ev.assign rfl) ?_
    refine JL.nil ?_
    refine JQ.thenN ?_
    refine JC.seq ?_
    -- region 10
    refine JC.region ?_
    refine JL.val rfl rfl rfl (.none rfl) (Ev.move rfl) ?_
    refine JL.val rfl rfl rfl (.none rfl) (Ev.move rfl) ?_
    refine JL.val rfl rfl rfl (.none rfl) (Ev.conv rfl (conv_u64_u8 Tryd.underlying34 Tryd.underlying5)) ?_
    refine JL.val rfl rfl rfl (.none rfl) (Ev.indexStr rfl rfl Tryd.underlying9 (tab_get (by decide +kernel) _)) ?_
    refine JL.val rfl rfl rfl (.none rfl) (Ev.conv rfl (conv_u8_i64 Tryd.underlying5 Tryd.underlying3)) ?_
    have e1 : (UInt8.ofNat (len8 x.toUInt8.toNat)).toNat < 256 := UInt8.toNat_lt _
    have e2 : (UInt8.ofNat (len8 (x >>> UInt64.ofNat 8).toUInt8.toNat)).toNat < 256 := UInt8.toNat_lt _
    refine JL.val rfl rfl rfl (.none rfl) (Ev.bin rfl rfl (add_i64 (by omega))) ?_
    refine JL.val rfl rfl rfl (.none rfl) (Ev.assign rfl) ?_
    refine JL.nil ?_
    refine JQ.thenN ?_
    refine JC.ret ?_
    refine JQ.end1 (H' := []) (.inl rfl) rfl (.tmp rfl) ?_ ?_
    · first | exact Sub.all | exact Sub.of_cnt (fun a => by (try dsimp only); simp only [cntA]; omega) | repeat (first | exact Sub.nil | refine Sub.cons (by first | exact .here | exact .there .here | exact .there (.there .here) | exact .there (.there (.there .here)) | exact .there (.there (.there (.there .here)))) ?_ | exact Sub.all)
    · exact congrArg (fun n : Nat => Value.int .i64 (n : Int)) (len64_big h256 hx)
  · -- t14 False
    replace hc1 := of_decide_eq_false hc1
    have h256 : x.toNat < 256 := by omega
    refine JC.skip ?_
    refine JQ.thenN ?_
    refine JC.seq ?_
    -- region 10
    refine JC.region ?_
    refine JL.val rfl rfl rfl (.none rfl) (Ev.move rfl) ?_
    refine JL.val rfl rfl rfl (.none rfl) (Ev.move rfl) ?_
    refine JL.val rfl rfl rfl (.none rfl) (Ev.conv rfl (conv_u64_u8 Tryd.underlying34 Tryd.underlying5)) ?_
    refine JL.val rfl rfl rfl (.none rfl) (Ev.indexStr rfl rfl Tryd.underlying9 (tab_get (by decide +kernel) _)) ?_
    refine JL.val rfl rfl rfl (.none rfl) (Ev.conv rfl (conv_u8_i64 Tryd.underlying5 Tryd.underlying3)) ?_
    have e1 : (UInt8.ofNat (len8 x.toUInt8.toNat)).toNat < 256 := UInt8.toNat_lt _
    have e2 : (UInt8.ofNat (len8 (x >>> UInt64.ofNat 8).toUInt8.toNat)).toNat < 256 := UInt8.toNat_lt _
    refine JL.val rfl rfl rfl (.none rfl) (Ev.bin rfl rfl (add_i64 (by omega))) ?_
    refine JL.val rfl rfl rfl (.none rfl) (Ev.assign rfl) ?_
    refine JL.nil ?_
    refine JQ.thenN ?_
    refine JC.ret ?_
    refine JQ.end1 (H' := []) (.inl rfl) rfl (.tmp rfl) ?_ ?_
    · first | exact Sub.all | exact Sub.of_cnt (fun a => by (try dsimp only); simp only [cntA]; omega) | repeat (first | exact Sub.nil | refine Sub.cons (by first | exact .here | exact .there .here | exact .there (.there .here) | exact .there (.there (.there .here)) | exact .there (.there (.there (.there .here)))) ?_ | exact Sub.all)
    · exact congrArg (fun n : Nat => Value.int .i64 (n : Int)) ((Nat.zero_add _).trans (len64_small h256))

theorem len_any (x : UInt64) (hx : x.toNat < 65536) (w : World) :
    Calls Tryd.prog 155 #[u64 x] w (Ret w (fun v _ => v = .int .i64 ((len8 x.toNat : Nat) : Int))) := by
  refine enter (vs := [u64 x]) Tryd.func155 rfl Tryd.ntmps155 rfl ?_
  refine JC.seq ?_
  -- region 0
  refine JC.region ?_
  refine JL.val rfl rfl rfl (.none rfl) (Ev.assign rfl) ?_
  refine JL.nil ?_
  refine JQ.thenN ?_
  refine JC.seq ?_
  refine JC.condF rfl ?_
  refine JC.skip ?_
  refine JQ.thenN ?_
  refine JC.seq ?_
  -- region 2
  refine JC.region ?_
  refine JL.val rfl rfl rfl (.none rfl) (Ev.move rfl) ?_
  refine JL.callV rfl (.none rfl) rfl Tryd.call172 (fun w1 hw1 => len64_any x hx w1) ?_
  refine JL.val rfl rfl rfl (.none rfl) (Ev.assign rfl) ?_
  refine JL.nil ?_
  refine JQ.thenN ?_
  refine JC.ret ?_
  refine JQ.end1 (H' := []) (.inl rfl) rfl (.tmp rfl) ?_ ?_
  · first | exact Sub.all | exact Sub.of_cnt (fun a => by (try dsimp only); simp only [cntA]; omega) | repeat (first | exact Sub.nil | refine Sub.cons (by first | exact .here | exact .there .here | exact .there (.there .here) | exact .there (.there (.there .here)) | exact .there (.there (.there (.there .here)))) ?_ | exact Sub.all)
  · exact rfl

theorem kbelow_any (n : Nat) (h2 : 2 ≤ n) (hn : n ≤ 60000) (w : World) :
    Calls Tryd.prog 127 #[.int .i64 (n : Int)] w (Ret w (fun v _ => v = .int .i64 ((bel n : Nat) : Int))) := by
  refine enter (vs := [.int .i64 (n : Int)]) Tryd.func127 rfl Tryd.ntmps127 rfl ?_
  refine JC.seq ?_
  -- region 0
  refine JC.region ?_
  refine JL.val rfl rfl rfl (.none rfl) (Ev.assign rfl) ?_
  refine JL.nil ?_
  refine JQ.thenN ?_
  refine JC.seq ?_
  -- region 1
  refine JC.region ?_
  refine JL.val rfl rfl rfl (.none rfl) (Ev.move rfl) ?_
  refine JL.val rfl rfl rfl (.none rfl) (Ev.cast (v' := .int .i64 ((n - 1 : Nat) : Int)) (congrArg (Value.int .i64) (by omega)) (Ev.bin rfl rfl (sub_i64 (by omega)))) ?_
  refine JL.val rfl rfl rfl (.none rfl) (Ev.conv rfl (conv_i64_u64 Tryd.underlying3 Tryd.underlying103 (by omega))) ?_
  refine JL.callV rfl (.none rfl) rfl Tryd.call155 (fun w1 hw1 => len_any (UInt64.ofNat (n - 1)) (by rw [ofNat_small (by omega)]; omega) w1) ?_
  have hl8 : len8 (UInt64.ofNat (n - 1)).toNat = Nat.log2 (n - 1) + 1 := by rw [ofNat_small (by omega)]; exact if_neg (by omega)
  have hlt := log2_small (n := n - 1) (by omega)
  refine JL.val rfl rfl rfl (.none rfl) (Ev.cast (v' := .int .i64 ((Nat.log2 (n - 1) : Nat) : Int)) (congrArg (Value.int .i64) (by omega)) (Ev.bin rfl rfl (sub_i64 (by omega)))) ?_
  refine JL.val rfl rfl rfl (.none rfl) (Ev.bin rfl rfl (shl1_i64 (by omega))) ?_
  refine JL.val rfl rfl rfl (.none rfl) (Ev.assign rfl) ?_
  refine JL.nil ?_
  refine JQ.thenN ?_
  refine JC.ret ?_
  refine JQ.end1 (H' := []) (.inl rfl) rfl (.tmp rfl) ?_ ?_
  · first | exact Sub.all | exact Sub.of_cnt (fun a => by (try dsimp only); simp only [cntA]; omega) | repeat (first | exact Sub.nil | refine Sub.cons (by first | exact .here | exact .there .here | exact .there (.there .here) | exact .there (.there (.there .here)) | exact .there (.there (.there (.there .here)))) ?_ | exact Sub.all)
  · rfl

end Go.Proofs.YtopaednfjjjnbaaDoor
