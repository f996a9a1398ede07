/-
  The reference's digest of an input, and its error.
-/
import Derived.Test.YtebinlinhmohbaaDoorDig4
namespace Go.Proofs.YtebinlinhmohbaaDoor
open Go Go.RowKit
set_option maxRecDepth 100000

def outP (s : St) (i : Nat) : List UInt8 := (outBytes s).take i ++ List.replicate (32 - i) 0
theorem outBytes_length (s : St) : (outBytes s).length = 32 := rfl
theorem outP_length (s : St) {i : Nat} (hi : i ≤ 32) : (outP s i).length = 32 := by simp [outP, outBytes_length]; omega
theorem outBytes_at (s : St) {i : Nat} (hi : i < 32) : (outBytes s)[i]? = some ((s.l.getD (i / 4) 0) >>> UInt32.ofNat (24 - 8 * (i % 4))).toUInt8 :=
  (by rcases (by omega : i = 0 ∨ i = 1 ∨ i = 2 ∨ i = 3 ∨ i = 4 ∨ i = 5 ∨ i = 6 ∨ i = 7 ∨ i = 8 ∨ i = 9 ∨ i = 10 ∨ i = 11 ∨ i = 12 ∨ i = 13 ∨ i = 14 ∨ i = 15 ∨ i = 16 ∨ i = 17 ∨ i = 18 ∨ i = 19 ∨ i = 20 ∨ i = 21 ∨ i = 22 ∨ i = 23 ∨ i = 24 ∨ i = 25 ∨ i = 26 ∨ i = 27 ∨ i = 28 ∨ i = 29 ∨ i = 30 ∨ i = 31) with h | h | h | h | h | h | h | h | h | h | h | h | h | h | h | h | h | h | h | h | h | h | h | h | h | h | h | h | h | h | h | h <;> subst h <;> rfl)
theorem outP_set (s : St) {i : Nat} (hi : i < 32) : (arr8 (outP s i)).setIfInBounds i (u8 ((s.l.getD (i / 4) 0) >>> UInt32.ofNat (24 - 8 * (i % 4))).toUInt8) = arr8 (outP s (i + 1)) := by
  rw [arr8_set]
  congr 1
  unfold outP
  have h1 : 32 - i = 32 - (i + 1) + 1 := by omega
  have h2 : ((outBytes s).take i).length = i := by rw [List.length_take, outBytes_length]; omega
  rw [h1, List.replicate_succ, List.set_append_right _ _ (by omega), h2, Nat.sub_self, List.set_cons_zero, List.take_add_one, outBytes_at s hi]
  simp
theorem shaO_length (l : List UInt8) : (shaO l).length = 32 := by unfold shaO; split <;> rfl

theorem of_any (oa : Option Addr) (cap : Nat) (l : List UInt8) (w : World) (hb : Bs w oa cap l) (hl : l.length ≤ 1000000) :
    Calls Tryd.prog 45 #[.slice oa l.length cap] w (Ret w (fun v _ => v = .agg (arr8 (sha l)))) := by
  refine enter (vs := [.slice oa l.length cap]) Tryd.func45 rfl Tryd.ntmps45 rfl ?_
  refine JC.seq ?_
  -- region 0
  refine JC.region ?_
  refine JL.new rfl rfl rfl (.none rfl) (En.allocZ (cs := arr8 (List.replicate 32 0)) Tryd.zeroValue22 rfl) (fun b2 hb2 => ?_)
  refine JL.nil ?_
  refine JQ.reH (o' := .cells (arr8 (List.replicate 32 0)) 22 (0, 0)) .here rfl ?_
  refine JQ.thenN ?_
  refine JC.seq ?_
  -- region 1
  refine JC.region ?_
  refine JL.callV rfl (.none rfl) rfl Tryd.call51 (fun w1 hw1 => first_any w1) ?_
  refine JL.new rfl rfl rfl (.none rfl) (En.allocZ (cs := arr32 (List.replicate 8 0)) Tryd.zeroValue78 rfl) (fun b3 hb3 => ?_)
  refine JL.sto rfl rfl (.none rfl) (Es.storeA rfl rfl Tryd.sizeOf78 (by repeat (first | exact .here | apply Upd.there | apply Upd.left)) (by first | rfl | exact dig_size _ | (rw [arr8_size]; first | exact sha_length _ | exact shaO_length _ | assumption)) (by first | rfl | exact dig_size _ | (rw [arr8_size]; first | exact sha_length _ | exact shaO_length _ | assumption)) (arr32_one st0.l)) ?_
  refine JL.nil ?_
  refine JQ.thenN ?_
  refine JC.seq ?_
  -- region 2
  refine JC.region ?_
  refine JL.val rfl rfl rfl (.none rfl) (Ev.move rfl) ?_
  refine JL.callN rfl (.none rfl) rfl Tryd.call52 (fun w1 hw1 => rpadded_any oa cap l w1 (hb.old hw1) hl) ?_
  rintro _ _ ⟨r0, rfl, rfl, hr0⟩
  refine JL.val rfl rfl rfl (.none rfl) (Ev.assign rfl) ?_
  refine JL.nil ?_
  refine JQ.thenN ?_
  refine JC.seq ?_
  refine JC.seq ?_
  -- region 3
  refine JC.region ?_
  refine JL.val rfl rfl rfl (.none rfl) (Ev.assign rfl) ?_
  refine JL.nil ?_
  refine JQ.thenN ?_
  refine JC.block ?_
  have hN : 64 * ((pad l).length / 64) = (pad l).length := by have := pad_mod l; omega
  have hmx : (pad l).length ≤ 9007199254740992 := by have := pad_length l; have : zeros l.length < 64 := by { unfold zeros; omega }; omega
  have hcp : (pad l).length ≤ r0.cap := hr0.2.1
  refine JC.loop (X := Nat)
    (fun k => [(2, .pointer (some ⟨b2, 0, none⟩)), (3, .pointer (some ⟨b3, 0, none⟩)), (4, .slice (some ⟨r0.g, 0, none⟩) (pad l).length r0.cap), (5, .int .i64 (64 * (k : Int)))])
    (fun k => [(r0.g, .cells r0.cs 5 (0, 0)), (b3, .cells (arr32 (foldB (pad l) st0 k).l) 78 (0, 0)), (b2, .cells (arr8 (List.replicate 32 0)) 22 (0, 0))])
    (fun k => k ≤ (pad l).length / 64)
    (fun k => (pad l).length / 64 - k) 0 ?_ ?_ ?_ ?_
  · exact Keeps.get (by repeat (first | exact Keeps.nil | refine Keeps.cons rfl ?_))
  · first | exact Sub.all | exact Sub.of_cnt (fun a => by (try dsimp only); simp only [cntA]; omega) | repeat (first | exact Sub.nil | refine Sub.cons (by first | exact .here | exact .there .here | exact .there (.there .here) | exact .there (.there (.there .here)) | exact .there (.there (.there (.there .here)))) ?_ | exact Sub.all)
  · omega
  rintro k hkn
  refine JC.seq ?_
  refine JC.seq ?_
  -- region 4
  refine JC.region ?_
  refine JL.val rfl rfl rfl (.none rfl) (Ev.move rfl) ?_
  refine JL.val rfl rfl rfl (.none rfl) (Ev.move rfl) ?_
  refine JL.val rfl rfl rfl (.none rfl) (Ev.lenS rfl Tryd.underlying71) ?_
  refine JL.val rfl rfl rfl (.none rfl) (Ev.bin rfl rfl lss_int) ?_
  refine JL.nil ?_
  refine JQ.thenN ?_
  refine JC.cond rfl (fun hc1 => ?_) (fun hc1 => ?_)
  · -- t14 True
    replace hc1 := of_decide_eq_true hc1
    have hkN : k < (pad l).length / 64 := by omega
    refine JC.skip ?_
    refine JQ.thenN ?_
    refine JC.seq ?_
    refine JC.block ?_
    -- region 6
    refine JC.regionT 7 (by kernel_rfl) (by kernel_rfl) (List.take_append_drop 7 _).symm rfl ?_
    refine JW.val rfl rfl (.none rfl) (Ev.loadB rfl (by repeat (first | exact List.Mem.head _ | refine List.Mem.tail _ ?_ | refine List.mem_append_right _ ?_ | assumption)) Tryd.underlying78 rfl Tryd.sizeOf78 (by first | rfl | exact dig_size _ | (rw [arr8_size]; first | exact sha_length _ | exact shaO_length _ | assumption))) ?_
    refine JW.val rfl rfl (.none rfl) (Ev.move rfl) ?_
    refine JW.val rfl rfl (.none rfl) (Ev.move rfl) ?_
    refine JW.val rfl rfl (.none rfl) (Ev.move rfl) ?_
    refine JW.val rfl rfl (.none rfl) (Ev.bin rfl rfl (add_i64 (by omega))) ?_
    refine JW.val rfl rfl (.none rfl) (Ev.sliceLH rfl rfl rfl Tryd.underlying71 Tryd.sizeOf5 (l := 64 * k) (h := 64 * k + 64) (by omega) (by omega) (by omega) (by omega)) ?_
    refine JW.re (d := 22) (v' := .slice (some ((⟨r0.g, 0, none⟩ : Addr).add (64 * k))) 64 (r0.cap - 64 * k)) rfl ((sub3_some (by omega)).trans (by congr 1; omega)) ?_
    refine JW.call rfl (.none rfl) rfl Tryd.call53 (fun w1 hw1 => (after_any (foldB (pad l) st0 k) ((⟨r0.g, 0, none⟩ : Addr).add (64 * k)) (r0.cap - 64 * k) (((pad l).drop (64 * k)).take 64) w1 (BMem.cut (mem_of_row hw1 (.head _) hr0) _ _) (by simp; omega) (by omega))) ?_
    refine JW.tail ?_
    refine JL.sto rfl rfl (.none rfl) (Es.storeA rfl rfl Tryd.sizeOf78 (by repeat (first | exact .here | apply Upd.there | apply Upd.left)) (by first | rfl | exact dig_size _ | (rw [arr8_size]; first | exact sha_length _ | exact shaO_length _ | assumption)) (by first | rfl | exact dig_size _ | (rw [arr8_size]; first | exact sha_length _ | exact shaO_length _ | assumption)) (arr32_one _)) ?_
    refine JL.nil ?_
    refine JQ.blockN ?_
    refine JQ.thenN ?_
    -- region 5
    refine JC.region ?_
    refine JL.val rfl rfl rfl (.none rfl) (Ev.move rfl) ?_
    refine JL.val rfl rfl rfl (.none rfl) (Ev.bin rfl rfl (add_i64 (by omega))) ?_
    refine JL.val rfl rfl rfl (.none rfl) (Ev.assign rfl) ?_
    refine JL.nil ?_
    refine JQ.re (d := 5) (v' := .int .i64 (64 * ((k + 1 : Nat) : Int))) rfl (congrArg (Value.int .i64) (by omega)) ?_
    refine JQ.loopN (k + 1) ?_ ?_ ?_ ?_
    · exact Keeps.get (by repeat (first | exact Keeps.nil | refine Keeps.cons rfl ?_))
    · first | exact Sub.all | exact Sub.of_cnt (fun a => by (try dsimp only); simp only [cntA]; omega) | repeat (first | exact Sub.nil | refine Sub.cons (by first | exact .here | exact .there .here | exact .there (.there .here) | exact .there (.there (.there .here)) | exact .there (.there (.there (.there .here)))) ?_ | exact Sub.all)
    · omega
    · omega
  · -- t14 False
    replace hc1 := of_decide_eq_false hc1
    obtain rfl : k = (pad l).length / 64 := by omega
    refine JC.exit ?_
    refine JQ.thenE ?_
    refine JQ.thenE ?_
    refine JQ.blockE ?_
    refine JQ.thenN ?_
    refine JC.seq ?_
    -- region 7
    refine JC.region ?_
    generalize hsd : foldB (pad l) st0 ((pad l).length / 64) = s
    refine JL.new rfl rfl rfl (.none rfl) (En.allocZ (cs := arr8 (List.replicate 32 0)) Tryd.zeroValue22 rfl) (fun b6 hb6 => ?_)
    refine JL.nil ?_
    refine JQ.reH (o' := .cells (arr8 (outP s 0)) 22 (0, 0)) .here rfl ?_
    refine JQ.thenN ?_
    refine JC.seq ?_
    refine JC.seq ?_
    -- region 8
    refine JC.region ?_
    refine JL.val rfl rfl rfl (.none rfl) (Ev.assign rfl) ?_
    refine JL.nil ?_
    refine JQ.thenN ?_
    refine JC.block ?_
    refine JC.loop (X := Nat)
      (fun i => [(2, .pointer (some ⟨b2, 0, none⟩)), (3, .pointer (some ⟨b3, 0, none⟩)), (6, .pointer (some ⟨b6, 0, none⟩)), (7, .int .i64 (i : Int))])
      (fun i => [(b6, .cells (arr8 (outP s i)) 22 (0, 0)), (b3, .cells (arr32 s.l) 78 (0, 0)), (b2, .cells (arr8 (List.replicate 32 0)) 22 (0, 0))])
      (fun i => i ≤ 32)
      (fun i => 32 - i) 0 ?_ ?_ ?_ ?_
    · exact Keeps.get (by repeat (first | exact Keeps.nil | refine Keeps.cons rfl ?_))
    · first | exact Sub.all | exact Sub.of_cnt (fun a => by (try dsimp only); simp only [cntA]; omega) | repeat (first | exact Sub.nil | refine Sub.cons (by first | exact .here | exact .there .here | exact .there (.there .here) | exact .there (.there (.there .here)) | exact .there (.there (.there (.there .here)))) ?_ | exact Sub.all)
    · omega
    rintro i hi32
    refine JC.seq ?_
    refine JC.seq ?_
    -- region 9
    refine JC.region ?_
    refine JL.val rfl rfl rfl (.none rfl) (Ev.move rfl) ?_
    refine JL.val rfl rfl rfl (.none rfl) (Ev.bin rfl rfl lss_int) ?_
    refine JL.nil ?_
    refine JQ.thenN ?_
    refine JC.cond rfl (fun hc2 => ?_) (fun hc2 => ?_)
    · -- t25 True
      replace hc2 := of_decide_eq_true hc2
      refine JC.skip ?_
      refine JQ.thenN ?_
      refine JC.seq ?_
      refine JC.block ?_
      -- region 11
      refine JC.region ?_
      refine JL.val rfl rfl rfl (.none rfl) (Ev.move rfl) ?_
      refine JL.val rfl rfl rfl (.none rfl) (Ev.move rfl) ?_
      refine JL.val rfl rfl rfl (.none rfl) (Ev.bin rfl rfl (quo_i64 (by omega))) ?_
      refine JL.val rfl rfl rfl (.none rfl) (Ev.idxB1 rfl rfl Tryd.underlying78 Tryd.sizeOf77 (k := i / 4) (by omega) (by omega)) ?_
      refine JL.val rfl rfl rfl (.none rfl) (Ev.load1 rfl Tryd.underlying77 rfl (Rd.own (by repeat (first | exact List.Mem.head _ | refine List.Mem.tail _ ?_ | refine List.mem_append_right _ ?_ | assumption)) (stl_at s (k := i / 4) (by omega)))) ?_
      refine JL.val rfl rfl rfl (.none rfl) (Ev.move rfl) ?_
      refine JL.val rfl rfl rfl (.none rfl) (Ev.bin rfl rfl (rem_i64 (by omega))) ?_
      refine JL.val rfl rfl rfl (.none rfl) (Ev.bin rfl rfl (mul_i64 (by omega))) ?_
      refine JL.val rfl rfl rfl (.none rfl) (Ev.bin rfl rfl (sub_i64 (by omega))) ?_
      refine JL.re (d := 36) (v' := .int .i64 ((24 - 8 * (i % 4) : Nat) : Int)) rfl (congrArg (Value.int .i64) (by omega)) ?_
      refine JL.val rfl rfl rfl (.none rfl) (Ev.bin rfl rfl (shr_u32 (n := 24 - 8 * (i % 4)) (by omega))) ?_
      refine JL.val rfl rfl rfl (.none rfl) (Ev.conv rfl (conv_u32_u8 Tryd.underlying77 Tryd.underlying5)) ?_
      refine JL.val rfl rfl rfl (.none rfl) (Ev.idxB1 rfl rfl Tryd.underlying22 Tryd.sizeOf5 (k := i) rfl (by omega)) ?_
      refine JL.sto rfl rfl (.none rfl) (Es.store1 rfl rfl Tryd.sizeOf5 rfl rfl (by repeat (first | exact .here | apply Upd.there | apply Upd.left)) (by rw [arr8_size, outP_length _ (by omega)]; omega)) ?_
      refine JL.reH .here (congrArg (fun c => Obj.cells c 22 (0, 0)) (outP_set s (i := i) (by omega))) ?_
      refine JL.nil ?_
      refine JQ.blockN ?_
      refine JQ.thenN ?_
      -- region 10
      refine JC.region ?_
      refine JL.val rfl rfl rfl (.none rfl) (Ev.move rfl) ?_
      refine JL.val rfl rfl rfl (.none rfl) (Ev.bin rfl rfl (add_i64 (by omega))) ?_
      refine JL.val rfl rfl rfl (.none rfl) (Ev.assign rfl) ?_
      refine JL.nil ?_
      refine JQ.loopN (i + 1) ?_ ?_ ?_ ?_
      · exact Keeps.get (by repeat (first | exact Keeps.nil | refine Keeps.cons rfl ?_))
      · first | exact Sub.all | exact Sub.of_cnt (fun a => by (try dsimp only); simp only [cntA]; omega) | repeat (first | exact Sub.nil | refine Sub.cons (by first | exact .here | exact .there .here | exact .there (.there .here) | exact .there (.there (.there .here)) | exact .there (.there (.there (.there .here)))) ?_ | exact Sub.all)
      · omega
      · omega
    · -- t25 False
      replace hc2 := of_decide_eq_false hc2
      refine JC.exit ?_
      refine JQ.thenE ?_
      refine JQ.thenE ?_
      refine JQ.blockE ?_
      refine JQ.thenN ?_
      refine JC.seq ?_
      -- region 12
      refine JC.region ?_
      obtain rfl : i = 32 := by omega
      refine JL.val rfl rfl rfl (.none rfl) (Ev.loadB rfl (by repeat (first | exact List.Mem.head _ | refine List.Mem.tail _ ?_ | refine List.mem_append_right _ ?_ | assumption)) Tryd.underlying22 rfl Tryd.sizeOf22 (by rw [arr8_size, outP_length _ (by omega)])) ?_
      refine JL.sto rfl rfl (.none rfl) (Es.storeA rfl rfl Tryd.sizeOf22 (by repeat (first | exact .here | apply Upd.there | apply Upd.left)) (by rw [arr8_size, outP_length _ (by omega)]) (by first | rfl | exact dig_size _ | (rw [arr8_size]; first | exact sha_length _ | exact shaO_length _ | assumption)) (arr8_one _)) ?_
      refine JL.nil ?_
      refine JQ.thenN ?_
      refine JC.ret ?_
      refine JQ.end1 (H' := []) (.inl rfl) rfl (.agg rfl (by repeat (first | exact List.Mem.head _ | refine List.Mem.tail _ ?_ | refine List.mem_append_right _ ?_ | assumption)) Tryd.underlying22 rfl Tryd.sizeOf22 (by rw [arr8_size, outP_length _ (by omega)])) ?_ ?_
      · first | exact Sub.all | exact Sub.of_cnt (fun a => by (try dsimp only); simp only [cntA]; omega) | repeat (first | exact Sub.nil | refine Sub.cons (by first | exact .here | exact .there .here | exact .there (.there .here) | exact .there (.there (.there .here)) | exact .there (.there (.there (.there .here)))) ?_ | exact Sub.all)
      · exact congrArg (fun c => Value.agg (arr8 c)) (by unfold sha; rw [hsd]; rfl)

end Go.Proofs.YtebinlinhmohbaaDoor
