/-
  The shape of the padded input: walked.
-/
import Derived.Test.YteehmomhaaohhaaDoorLaw5
namespace Go.Proofs.YteehmomhaaohhaaDoor
open Go Go.RowKit
set_option maxRecDepth 100000

theorem pad_at_len (l : List UInt8) : (pad l).getD l.length 0 = 128 := by
  simp [pad, List.getD_eq_getElem?_getD, List.append_assoc]
theorem pad_at_zero (l : List UInt8) {k : Nat} (hk : k < zeros l.length) : (pad l).getD (l.length + 1 + k) 0 = 0 := by
  unfold pad
  rw [List.getD_eq_getElem?_getD, List.getElem?_append_left (by simp; try omega), List.getElem?_append_right (by simp; try omega)]
  simp [show l.length + 1 + k - (l.length + 1) = k by omega, hk]
theorem pad_at_len8 (l : List UInt8) {j : Nat} (hj : j < 8) : (pad l).getD ((pad l).length - 8 + j) 0 = ((UInt64.ofNat l.length * 8) >>> UInt64.ofNat (56 - 8 * j)).toUInt8 := by
  have h1 := pad_length l
  have h2 : (l ++ [128] ++ List.replicate (zeros l.length) 0).length = (pad l).length - 8 := by simp; omega
  have h3 : (lenBytes l.length)[j]? = some ((UInt64.ofNat l.length * 8) >>> UInt64.ofNat (56 - 8 * j)).toUInt8 := by
    rcases (by omega : j = 0 ∨ j = 1 ∨ j = 2 ∨ j = 3 ∨ j = 4 ∨ j = 5 ∨ j = 6 ∨ j = 7) with h | h | h | h | h | h | h | h <;> subst h <;> rfl
  rw [List.getD_eq_getElem?_getD]
  unfold pad at *
  rw [List.getElem?_append_right (by omega), h2, Nat.add_sub_cancel_left, h3]
  rfl
theorem bits_step (l : List UInt8) (hl : l.length ≤ 8192) {j : Nat} (hj : j < 8) :
    256 * (8 * l.length / 256 ^ (8 - j)) + ((pad l).getD ((pad l).length - 8 + j) 0).toNat = 8 * l.length / 256 ^ (8 - (j + 1)) := by
  rw [pad_at_len8 l hj]
  have e : (UInt64.ofNat l.length * 8).toNat = 8 * l.length := by
    rw [UInt64.toNat_mul]
    simp [UInt64.toNat_ofNat']
    omega
  rcases (by omega : j = 0 ∨ j = 1 ∨ j = 2 ∨ j = 3 ∨ j = 4 ∨ j = 5 ∨ j = 6 ∨ j = 7) with h | h | h | h | h | h | h | h <;> subst h <;>
    (rw [UInt64.toNat_toUInt8, UInt64.toNat_shiftRight, e]; simp [Nat.shiftRight_eq_div_pow]; try omega)

theorem lawPads_any (ob : Option Addr) (capb : Nat) (lb : List UInt8) (w : World) (hb : Bs w ob capb lb) (hk : KMem 0 w) (hf : FMem 1 w) :
    Calls Tryd.prog 5 #[.slice ob lb.length capb] w (Ret w (fun v _ => v = .bool true)) := by
  refine enter (vs := [.slice ob lb.length capb]) Tryd.func5 rfl Tryd.ntmps5 rfl ?_
  refine JC.seq ?_
  -- region 0
  refine JC.region ?_
  refine JL.val rfl rfl rfl (.none rfl) (Ev.assign rfl) ?_
  refine JL.nil ?_
  refine JQ.thenN ?_
  refine JC.seq ?_
  -- region 1
  refine JC.region ?_
  refine JL.callV rfl (.none rfl) rfl Tryd.call19 (fun w1 hw1 => alive_any w1 (hk.old hw1) (hf.old hw1)) ?_
  refine JL.val rfl rfl rfl (.none rfl) (Ev.assign rfl) ?_
  refine JL.nil ?_
  refine JQ.thenN ?_
  refine JC.seq ?_
  refine JC.seq ?_
  -- region 2
  refine JC.region ?_
  refine JL.val rfl rfl rfl (.none rfl) (Ev.move rfl) ?_
  refine JL.val rfl rfl rfl (.none rfl) (Ev.lenS rfl Tryd.underlying22) ?_
  refine JL.val rfl rfl rfl (.none rfl) (Ev.bin rfl rfl gtr_int) ?_
  refine JL.val rfl rfl rfl (.none rfl) (Ev.move rfl) ?_
  refine JL.split (d := 14) rfl (fun hg1 => ?_) (fun hg1 => ?_)
  · -- guard 14 true
    refine JL.skip rfl rfl (.noF rfl rfl rfl) ?_
    refine JL.skip rfl rfl (.noF rfl rfl rfl) ?_
    refine JL.val rfl rfl rfl (.none rfl) (Ev.pickT rfl rfl) ?_
    refine JL.nil ?_
    refine JQ.thenN ?_
    refine JC.condT rfl ?_
    refine JC.seq ?_
    -- region 3
    refine JC.region ?_
    refine JL.val rfl rfl rfl (.none rfl) (Ev.move rfl) ?_
    refine JL.val rfl rfl rfl (.none rfl) (Ev.assign rfl) ?_
    refine JL.nil ?_
    refine JQ.thenN ?_
    refine JC.ret ?_
    refine JQ.thenR ?_
    refine JQ.end1 (H' := []) (.inl rfl) rfl (.tmp rfl) ?_ ?_
    · repeat (first | exact Sub.nil | refine Sub.cons (by first | exact .here | exact .there .here | exact .there (.there .here) | exact .there (.there (.there .here)) | exact .there (.there (.there (.there .here)))) ?_ | exact Sub.all)
    · first | exact rfl | exact congrArg Value.bool (decide_eq_true (by simp))
  · -- guard 14 false
    have hnl : lb.length ≤ 8192 := by have := of_decide_eq_false hg1; omega
    have hpl := pad_length lb
    have hz : zeros lb.length < 64 := by unfold zeros; omega
    have hpm := pad_mod lb
    refine JL.val rfl rfl rfl (.yes rfl rfl rfl) (Ev.move rfl) ?_
    refine JL.val rfl rfl rfl (.yes rfl rfl rfl) (Ev.not rfl) ?_
    refine JL.val rfl rfl rfl (.none rfl) (Ev.pickF rfl rfl) ?_
    refine JL.nil ?_
    refine JQ.thenN ?_
    refine JC.knowF rfl ?_ ?_
    · rfl
    refine JC.skip ?_
    refine JQ.thenN ?_
    refine JC.seq ?_
    -- region 4
    refine JC.region ?_
    refine JL.val rfl rfl rfl (.none rfl) (Ev.move rfl) ?_
    refine JL.callN rfl (.none rfl) rfl Tryd.call13 (fun w1 hw1 => padS_any ob capb lb w1 (hb.old hw1) hnl) ?_
    rintro _ _ ⟨r0, rfl, rfl, hr0⟩
    refine JL.val rfl rfl rfl (.none rfl) (Ev.move rfl) ?_
    refine JL.val rfl rfl rfl (.none rfl) (Ev.extract rfl rfl) ?_
    refine JL.val rfl rfl rfl (.none rfl) (Ev.extract rfl rfl) ?_
    refine JL.val rfl rfl rfl (.none rfl) (Ev.assign rfl) ?_
    refine JL.val rfl rfl rfl (.none rfl) (Ev.assign rfl) ?_
    refine JL.nil ?_
    refine JQ.thenN ?_
    refine JC.seq ?_
    refine JC.seq ?_
    -- region 5
    refine JC.region ?_
    refine JL.val rfl rfl rfl (.none rfl) (Ev.move rfl) ?_
    refine JL.val rfl rfl rfl (.none rfl) (Ev.bin rfl rfl neq_int) ?_
    refine JL.val rfl rfl rfl (.none rfl) (Ev.move rfl) ?_
    refine JL.know (d := 26) (b := false) rfl ?_ ?_
    · simp
    refine JL.val rfl rfl rfl (.yes rfl rfl rfl) (Ev.move rfl) ?_
    refine JL.val rfl rfl rfl (.yes rfl rfl rfl) (Ev.lenS rfl Tryd.underlying22) ?_
    refine JL.val rfl rfl rfl (.yes rfl rfl rfl) (Ev.move rfl) ?_
    refine JL.val rfl rfl rfl (.yes rfl rfl rfl) (Ev.lenS rfl Tryd.underlying22) ?_
    refine JL.val rfl rfl rfl (.yes rfl rfl rfl) (Ev.bin rfl rfl (add_i64 (by omega))) ?_
    refine JL.val rfl rfl rfl (.yes rfl rfl rfl) (Ev.bin rfl rfl lss_int) ?_
    refine JL.val rfl rfl rfl (.none rfl) (Ev.pickF rfl rfl) ?_
    refine JL.nil ?_
    refine JQ.thenN ?_
    refine JC.knowF rfl ?_ ?_
    · exact decide_eq_false (by omega)
    refine JC.skip ?_
    refine JQ.thenN ?_
    refine JC.seq ?_
    -- region 7
    refine JC.region ?_
    refine JL.val rfl rfl rfl (.none rfl) (Ev.move rfl) ?_
    refine JL.val rfl rfl rfl (.none rfl) (Ev.lenS rfl Tryd.underlying22) ?_
    refine JL.val rfl rfl rfl (.none rfl) (Ev.assign rfl) ?_
    refine JL.nil ?_
    refine JQ.thenN ?_
    refine JC.seq ?_
    refine JC.seq ?_
    -- region 8
    refine JC.regionQ (by kernel_rfl) (by kernel_rfl) ?_
    refine JW.val rfl rfl (.none rfl) (Ev.move rfl) ?_
    refine JW.val rfl rfl (.none rfl) (Ev.bin rfl rfl (rem_i64 (by omega))) ?_
    refine JW.val rfl rfl (.none rfl) (Ev.bin rfl rfl neq_int) ?_
    refine JW.val rfl rfl (.none rfl) (Ev.move rfl) ?_
    refine JW.know (d := 39) (b := false) rfl ?_ ?_
    · exact decide_eq_false (by omega)
    refine JW.val rfl rfl (.yes rfl rfl rfl) (Ev.move rfl) ?_
    refine JW.val rfl rfl (.yes rfl rfl rfl) (Ev.move rfl) ?_
    refine JW.val rfl rfl (.yes rfl rfl rfl) (Ev.lenS rfl Tryd.underlying22) ?_
    refine JW.val rfl rfl (.yes rfl rfl rfl) (Ev.bin rfl rfl (add_i64 (by omega))) ?_
    refine JW.val rfl rfl (.yes rfl rfl rfl) (Ev.bin rfl rfl gtr_int) ?_
    refine JW.val rfl rfl (.none rfl) (Ev.pickF rfl rfl) ?_
    refine JW.val rfl rfl (.none rfl) (Ev.move rfl) ?_
    refine JW.know (d := 46) (b := false) rfl ?_ ?_
    · exact decide_eq_false (by omega)
    refine JW.val rfl rfl (.yes rfl rfl rfl) (Ev.move rfl) ?_
    refine JW.val rfl rfl (.yes rfl rfl rfl) (Ev.move rfl) ?_
    refine JW.val rfl rfl (.yes rfl rfl rfl) (Ev.lenS rfl Tryd.underlying22) ?_
    refine JW.val rfl rfl (.yes rfl rfl rfl) (Ev.sliceHi rfl rfl Tryd.underlying22 Tryd.sizeOf5 (h := lb.length) rfl (by have := hr0.2.1; omega)) ?_
    refine JW.re (d := 50) rfl sub3_zero ?_
    refine JW.val rfl rfl (.yes rfl rfl rfl) (Ev.str rfl Tryd.underlying22 Tryd.underlying9 Tryd.underlying5 rfl (fun h => by cases h) (fun ad had => by cases had; exact fun w2 hw2 => by have h9 := (mem_of_row hw2 (by first | exact .head _ | exact .tail _ (.head _) | exact .tail _ (.tail _ (.head _)) | exact .tail _ (.tail _ (.tail _ (.head _))) | exact .tail _ (.tail _ (.tail _ (.tail _ (.head _)))) | exact .tail _ (.tail _ (.tail _ (.tail _ (.tail _ (.head _)))))) hr0).take lb.length; have h8 : (pad lb).take lb.length = lb := by { have := pad_take lb []; rwa [List.append_nil] at this }; rw [h8] at h9; exact h9)) ?_
    refine JW.val rfl rfl (.yes rfl rfl rfl) (Ev.move rfl) ?_
    refine JW.val rfl rfl (.yes rfl rfl rfl) (Ev.str rfl Tryd.underlying22 Tryd.underlying9 Tryd.underlying5 rfl (fun h => by have := hb.le; have := hb.empty h; omega) (fun a ha => Rds.old (hb.mem a ha))) ?_
    refine JW.val rfl rfl (.yes rfl rfl rfl) (Ev.bin rfl rfl neq_string) ?_
    refine JW.val rfl rfl (.none rfl) (Ev.pickF rfl rfl) ?_
    refine JW.val rfl rfl (.none rfl) (Ev.move rfl) ?_
    refine JW.know (d := 56) (b := false) rfl ?_ ?_
    · exact bytes_nbeq _
    refine JW.val rfl rfl (.yes rfl rfl rfl) (Ev.move rfl) ?_
    refine JW.val rfl rfl (.yes rfl rfl rfl) (Ev.move rfl) ?_
    refine JW.val rfl rfl (.yes rfl rfl rfl) (Ev.lenS rfl Tryd.underlying22) ?_
    refine JW.val rfl rfl (.yes rfl rfl rfl) (Ev.idxS1 rfl rfl Tryd.underlying22 Tryd.sizeOf5 (k := lb.length) rfl (by omega)) ?_
    refine JW.val rfl rfl (.yes rfl rfl rfl) (Ev.load1 rfl Tryd.underlying5 rfl (fun w2 hw2 => (mem_of_row hw2 (by first | exact .head _ | exact .tail _ (.head _) | exact .tail _ (.tail _ (.head _)) | exact .tail _ (.tail _ (.tail _ (.head _))) | exact .tail _ (.tail _ (.tail _ (.tail _ (.head _)))) | exact .tail _ (.tail _ (.tail _ (.tail _ (.tail _ (.head _)))))) hr0).at (k := lb.length) (by omega))) ?_
    refine JW.val rfl rfl (.yes rfl rfl rfl) (Ev.bin rfl rfl neq_int) ?_
    refine JW.val rfl rfl (.none rfl) (Ev.pickF rfl rfl) ?_
    refine JW.nilQ ?_
    refine JQ.thenN ?_
    refine JC.knowF rfl ?_ ?_
    · exact decide_eq_false (by rw [pad_at_len]; decide)
    refine JC.skip ?_
    refine JQ.thenN ?_
    refine JC.seq ?_
    refine JC.seq ?_
    -- region 10
    refine JC.region ?_
    refine JL.val rfl rfl rfl (.none rfl) (Ev.move rfl) ?_
    refine JL.val rfl rfl rfl (.none rfl) (Ev.lenS rfl Tryd.underlying22) ?_
    refine JL.val rfl rfl rfl (.none rfl) (Ev.bin rfl rfl (add_i64 (by omega))) ?_
    refine JL.val rfl rfl rfl (.none rfl) (Ev.assign rfl) ?_
    refine JL.nil ?_
    refine JQ.thenN ?_
    refine JC.block ?_
    refine JC.loop (X := Nat)
      (fun k => [(0, .slice ob lb.length capb), (3, .bool true), (4, .slice (some ⟨r0.g, 0, none⟩) (pad lb).length r0.cap), (6, .int .i64 ((pad lb).length : Int)), (7, .int .i64 ((lb.length + 1 + k : Nat) : Int))])
      (fun k => [(r0.g, .cells r0.cs 5 (0, 0))])
      (fun k => k ≤ zeros lb.length)
      (fun k => zeros lb.length - k) 0 ?_ ?_ ?_ ?_
    · exact Keeps.get (by repeat (first | exact Keeps.nil | refine Keeps.cons rfl ?_))
    · repeat (first | exact Sub.nil | refine Sub.cons (by first | exact .here | exact .there .here | exact .there (.there .here) | exact .there (.there (.there .here)) | exact .there (.there (.there (.there .here)))) ?_ | exact Sub.all)
    · exact Nat.zero_le _
    rintro k hkz0
    refine JC.seq ?_
    refine JC.seq ?_
    -- region 11
    refine JC.region ?_
    refine JL.val rfl rfl rfl (.none rfl) (Ev.move rfl) ?_
    refine JL.val rfl rfl rfl (.none rfl) (Ev.move rfl) ?_
    refine JL.val rfl rfl rfl (.none rfl) (Ev.bin rfl rfl (sub_i64 (by omega))) ?_
    refine JL.val rfl rfl rfl (.none rfl) (Ev.bin rfl rfl lss_int) ?_
    refine JL.nil ?_
    refine JQ.thenN ?_
    refine JC.cond rfl (fun hc1 => ?_) (fun hc1 => ?_)
    · -- t70 True
      replace hc1 := of_decide_eq_true hc1
      have hkz : k < zeros lb.length := by omega
      refine JC.skip ?_
      refine JQ.thenN ?_
      refine JC.seq ?_
      refine JC.block ?_
      refine JC.seq ?_
      -- region 13
      refine JC.region ?_
      refine JL.val rfl rfl rfl (.none rfl) (Ev.move rfl) ?_
      refine JL.val rfl rfl rfl (.none rfl) (Ev.move rfl) ?_
      refine JL.val rfl rfl rfl (.none rfl) (Ev.idxS1 rfl rfl Tryd.underlying22 Tryd.sizeOf5 (k := lb.length + 1 + k) rfl (by omega)) ?_
      refine JL.val rfl rfl rfl (.none rfl) (Ev.load1 rfl Tryd.underlying5 rfl (fun w2 hw2 => (mem_of_row hw2 (by first | exact .head _ | exact .tail _ (.head _) | exact .tail _ (.tail _ (.head _)) | exact .tail _ (.tail _ (.tail _ (.head _))) | exact .tail _ (.tail _ (.tail _ (.tail _ (.head _)))) | exact .tail _ (.tail _ (.tail _ (.tail _ (.tail _ (.head _)))))) hr0).at (k := lb.length + 1 + k) (by omega))) ?_
      refine JL.val rfl rfl rfl (.none rfl) (Ev.bin rfl rfl neq_int) ?_
      refine JL.nil ?_
      refine JQ.thenN ?_
      refine JC.knowF rfl ?_ ?_
      · exact decide_eq_false (by rw [pad_at_zero _ (by omega)]; decide)
      refine JC.skip ?_
      refine JQ.blockN ?_
      refine JQ.thenN ?_
      -- region 12
      refine JC.region ?_
      refine JL.val rfl rfl rfl (.none rfl) (Ev.move rfl) ?_
      refine JL.val rfl rfl rfl (.none rfl) (Ev.bin rfl rfl (add_i64 (by omega))) ?_
      refine JL.val rfl rfl rfl (.none rfl) (Ev.assign rfl) ?_
      refine JL.nil ?_
      refine JQ.re (d := 7) (v' := .int .i64 ((lb.length + 1 + (k + 1) : Nat) : Int)) rfl (congrArg (Value.int .i64) (by omega)) ?_
      refine JQ.loopN (k + 1) ?_ ?_ ?_ ?_
      · exact Keeps.get (by repeat (first | exact Keeps.nil | refine Keeps.cons rfl ?_))
      · repeat (first | exact Sub.nil | refine Sub.cons (by first | exact .here | exact .there .here | exact .there (.there .here) | exact .there (.there (.there .here)) | exact .there (.there (.there (.there .here)))) ?_ | exact Sub.all)
      · omega
      · omega
    · -- t70 False
      replace hc1 := of_decide_eq_false hc1
      obtain rfl : k = zeros lb.length := by omega
      refine JC.exit ?_
      refine JQ.thenE ?_
      refine JQ.thenE ?_
      refine JQ.blockE ?_
      refine JQ.thenN ?_
      refine JC.seq ?_
      -- region 15
      refine JC.region ?_
      refine JL.val rfl rfl rfl (.none rfl) (Ev.assign rfl) ?_
      refine JL.nil ?_
      refine JQ.thenN ?_
      refine JC.seq ?_
      refine JC.seq ?_
      -- region 16
      refine JC.region ?_
      refine JL.val rfl rfl rfl (.none rfl) (Ev.move rfl) ?_
      refine JL.val rfl rfl rfl (.none rfl) (Ev.bin rfl rfl (sub_i64 (by omega))) ?_
      refine JL.val rfl rfl rfl (.none rfl) (Ev.assign rfl) ?_
      refine JL.nil ?_
      refine JQ.thenN ?_
      refine JC.block ?_
      refine JC.re (d := 8) (v' := .int .i64 ((8 * lb.length / 256 ^ (8 - 0) : Nat) : Int)) rfl (congrArg (Value.int .i64) (by rw [Nat.div_eq_of_lt (Nat.lt_of_lt_of_le (by omega : 8 * lb.length < 70000) (by decide))]; rfl)) ?_
      refine JC.re (d := 9) (v' := .int .i64 (((pad lb).length - 8 + 0 : Nat) : Int)) rfl (congrArg (Value.int .i64) (by omega)) ?_
      refine JC.loop (X := Nat)
        (fun j => [(0, .slice ob lb.length capb), (3, .bool true), (4, .slice (some ⟨r0.g, 0, none⟩) (pad lb).length r0.cap), (6, .int .i64 ((pad lb).length : Int)), (8, .int .i64 ((8 * lb.length / 256 ^ (8 - j) : Nat) : Int)), (9, .int .i64 (((pad lb).length - 8 + j : Nat) : Int))])
        (fun j => [(r0.g, .cells r0.cs 5 (0, 0))])
        (fun j => j ≤ 8)
        (fun j => 8 - j) 0 ?_ ?_ ?_ ?_
      · exact Keeps.get (by repeat (first | exact Keeps.nil | refine Keeps.cons rfl ?_))
      · repeat (first | exact Sub.nil | refine Sub.cons (by first | exact .here | exact .there .here | exact .there (.there .here) | exact .there (.there (.there .here)) | exact .there (.there (.there (.there .here)))) ?_ | exact Sub.all)
      · omega
      rintro j hj8
      refine JC.seq ?_
      refine JC.seq ?_
      -- region 17
      refine JC.region ?_
      refine JL.val rfl rfl rfl (.none rfl) (Ev.move rfl) ?_
      refine JL.val rfl rfl rfl (.none rfl) (Ev.move rfl) ?_
      refine JL.val rfl rfl rfl (.none rfl) (Ev.bin rfl rfl lss_int) ?_
      refine JL.nil ?_
      refine JQ.thenN ?_
      refine JC.cond rfl (fun hc2 => ?_) (fun hc2 => ?_)
      · -- t82 True
        replace hc2 := of_decide_eq_true hc2
        have hj : j < 8 := by omega
        refine JC.skip ?_
        refine JQ.thenN ?_
        refine JC.seq ?_
        refine JC.block ?_
        -- region 19
        refine JC.region ?_
        refine JL.val rfl rfl rfl (.none rfl) (Ev.move rfl) ?_
        have hxl : 8 * lb.length / 256 ^ (8 - j) ≤ 8 * lb.length := Nat.div_le_self _ _
        have hx0 : (0 : Int) ≤ ((8 * lb.length / 256 ^ (8 - j) : Nat) : Int) := Int.natCast_nonneg _
        refine JL.val rfl rfl rfl (.none rfl) (Ev.bin rfl rfl (mul_i64 (by omega))) ?_
        refine JL.val rfl rfl rfl (.none rfl) (Ev.move rfl) ?_
        refine JL.val rfl rfl rfl (.none rfl) (Ev.move rfl) ?_
        refine JL.val rfl rfl rfl (.none rfl) (Ev.idxS1 rfl rfl Tryd.underlying22 Tryd.sizeOf5 (k := (pad lb).length - 8 + j) rfl (by omega)) ?_
        refine JL.val rfl rfl rfl (.none rfl) (Ev.load1 rfl Tryd.underlying5 rfl (fun w2 hw2 => (mem_of_row hw2 (by first | exact .head _ | exact .tail _ (.head _) | exact .tail _ (.tail _ (.head _)) | exact .tail _ (.tail _ (.tail _ (.head _))) | exact .tail _ (.tail _ (.tail _ (.tail _ (.head _)))) | exact .tail _ (.tail _ (.tail _ (.tail _ (.tail _ (.head _)))))) hr0).at (k := (pad lb).length - 8 + j) (by omega))) ?_
        refine JL.val rfl rfl rfl (.none rfl) (Ev.conv rfl (conv_u8_i64 Tryd.underlying5 Tryd.underlying3)) ?_
        have hyl := UInt8.toNat_lt ((pad lb).getD ((pad lb).length - 8 + j) 0)
        refine JL.val rfl rfl rfl (.none rfl) (Ev.bin rfl rfl (add_i64 (by omega))) ?_
        refine JL.re (d := 92) (v' := .int .i64 ((8 * lb.length / 256 ^ (8 - (j + 1)) : Nat) : Int)) rfl (congrArg (Value.int .i64) (by rw [← bits_step lb hnl hj]; simp)) ?_
        refine JL.val rfl rfl rfl (.none rfl) (Ev.assign rfl) ?_
        refine JL.nil ?_
        refine JQ.blockN ?_
        refine JQ.thenN ?_
        -- region 18
        refine JC.region ?_
        refine JL.val rfl rfl rfl (.none rfl) (Ev.move rfl) ?_
        refine JL.val rfl rfl rfl (.none rfl) (Ev.bin rfl rfl (add_i64 (by omega))) ?_
        refine JL.val rfl rfl rfl (.none rfl) (Ev.assign rfl) ?_
        refine JL.nil ?_
        refine JQ.re (d := 9) (v' := .int .i64 (((pad lb).length - 8 + (j + 1) : Nat) : Int)) rfl (congrArg (Value.int .i64) (by omega)) ?_
        refine JQ.loopN (j + 1) ?_ ?_ ?_ ?_
        · exact Keeps.get (by repeat (first | exact Keeps.nil | refine Keeps.cons rfl ?_))
        · repeat (first | exact Sub.nil | refine Sub.cons (by first | exact .here | exact .there .here | exact .there (.there .here) | exact .there (.there (.there .here)) | exact .there (.there (.there (.there .here)))) ?_ | exact Sub.all)
        · omega
        · omega
      · -- t82 False
        replace hc2 := of_decide_eq_false hc2
        obtain rfl : j = 8 := by omega
        refine JC.exit ?_
        refine JQ.thenE ?_
        refine JQ.thenE ?_
        refine JQ.blockE ?_
        refine JQ.thenN ?_
        refine JC.seq ?_
        -- region 20
        refine JC.region ?_
        refine JL.val rfl rfl rfl (.none rfl) (Ev.move rfl) ?_
        refine JL.val rfl rfl rfl (.none rfl) (Ev.move rfl) ?_
        refine JL.know (d := 94) (b := true) rfl ?_ ?_
        · rfl
        refine JL.val rfl rfl rfl (.yes rfl rfl rfl) (Ev.move rfl) ?_
        refine JL.val rfl rfl rfl (.yes rfl rfl rfl) (Ev.move rfl) ?_
        refine JL.val rfl rfl rfl (.yes rfl rfl rfl) (Ev.lenS rfl Tryd.underlying22) ?_
        refine JL.val rfl rfl rfl (.yes rfl rfl rfl) (Ev.bin rfl rfl (mul_i64 (by omega))) ?_
        refine JL.val rfl rfl rfl (.yes rfl rfl rfl) (Ev.bin rfl rfl eql_int) ?_
        refine JL.val rfl rfl rfl (.none rfl) (Ev.pickT rfl rfl) ?_
        refine JL.val rfl rfl rfl (.none rfl) (Ev.assign rfl) ?_
        refine JL.nil ?_
        refine JQ.thenN ?_
        refine JC.ret ?_
        refine JQ.end1 (H' := []) (.inl rfl) rfl (.tmp rfl) ?_ ?_
        · repeat (first | exact Sub.nil | refine Sub.cons (by first | exact .here | exact .there .here | exact .there (.there .here) | exact .there (.there (.there .here)) | exact .there (.there (.there (.there .here)))) ?_ | exact Sub.all)
        · first | exact rfl | exact congrArg Value.bool (decide_eq_true (by simp))

end Go.Proofs.YteehmomhaaohhaaDoor
