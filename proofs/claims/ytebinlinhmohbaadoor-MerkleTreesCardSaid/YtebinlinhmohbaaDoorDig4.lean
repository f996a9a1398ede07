/-
  The program's digest: the blocks of the padded input, one by one; the digest; its error.
-/
import Derived.Test.YtebinlinhmohbaaDoorDig2
import Derived.Test.YtebinlinhmohbaaDoorDig3
import Derived.Test.YtebinlinhmohbaaDoorRef2
import Derived.Test.YtebinlinhmohbaaDoorRange
namespace Go.Proofs.YtebinlinhmohbaaDoor
open Go Go.RowKit
set_option maxRecDepth 100000

def four (x : UInt32) : List UInt8 := [(x >>> UInt32.ofNat 24).toUInt8, (x >>> UInt32.ofNat 16).toUInt8, (x >>> UInt32.ofNat 8).toUInt8, x.toUInt8]
def outK (s : St) (i : Nat) : List UInt8 := (outBytes s).take (4 * i) ++ List.replicate (32 - 4 * i) 0
theorem outK_length (s : St) {i : Nat} (hi : i ≤ 8) : (outK s i).length = 32 := by
  rcases (by omega : i = 0 ∨ i = 1 ∨ i = 2 ∨ i = 3 ∨ i = 4 ∨ i = 5 ∨ i = 6 ∨ i = 7 ∨ i = 8) with h | h | h | h | h | h | h | h | h <;> subst h <;> rfl
theorem outK_over (s : St) {i : Nat} (hi : i < 8) : over (arr8 (outK s i)) (4 * i) ((four (s.l.getD i 0)).map u8) = arr8 (outK s (i + 1)) := by
  rcases (by omega : i = 0 ∨ i = 1 ∨ i = 2 ∨ i = 3 ∨ i = 4 ∨ i = 5 ∨ i = 6 ∨ i = 7) with h | h | h | h | h | h | h | h <;> subst h <;> rfl
theorem mem_of_row {w0 w : World} {H : Blocks} {e : TypeId} {n : Nat} {r : Row} {l : List UInt8} (hw : Hp w0 H w) (hm : (r.g, Obj.cells r.cs e (0, 0)) ∈ H) (hr : Row.ok 1 n (l.map u8) (some r)) : BMem w ⟨r.g, 0, none⟩ l := by
  refine Mem.own hw hm fun j v hj => ?_
  rw [← hr.2.2.2.2] at hj
  rw [List.getElem?_take] at hj
  split at hj
  · simpa using hj
  · cases hj
def shaO (l : List UInt8) : List UInt8 := if 8192 < l.length then List.replicate 32 0 else sha l
theorem shaO_big {l : List UInt8} (h : 8192 < l.length) : shaO l = List.replicate 32 0 := if_pos h
theorem shaO_small {l : List UInt8} (h : ¬ 8192 < l.length) : shaO l = sha l := if_neg h

theorem chunk_any (oa : Option Addr) (len cap : Nat) (w : World) :
    Calls Tryd.prog 46 #[.slice oa len cap, .int .i64 64] w (Ret w (fun v H => ∃ bs bn, v = .func (.func 54) #[] #[.pointer (some ⟨bs, 0, none⟩), .pointer (some ⟨bn, 0, none⟩)] ∧ H = [(bn, .cells #[.int .i64 64] 3 (0, 0)), (bs, .cells #[.slice oa len cap] 71 (0, 0))])) := by
  refine enter (vs := [.slice oa len cap, .int .i64 64]) Tryd.func46 rfl Tryd.ntmps46 rfl ?_
  refine JC.seq ?_
  -- region 0
  refine JC.region ?_
  refine JL.new rfl rfl rfl (.none rfl) (En.box1 rfl rfl) (fun b2 hb2 => ?_)
  refine JL.new rfl rfl rfl (.none rfl) (En.box1 rfl rfl) (fun b3 hb3 => ?_)
  refine JL.val rfl rfl rfl (.none rfl) (Ev.assign rfl) ?_
  refine JL.nil ?_
  refine JQ.thenN ?_
  refine JC.seq ?_
  refine JC.seq ?_
  -- region 1
  refine JC.region ?_
  refine JL.val rfl rfl rfl (.none rfl) (Ev.load1 rfl Tryd.underlying3 rfl (Rd.own (by repeat (first | exact List.Mem.head _ | refine List.Mem.tail _ ?_ | refine List.mem_append_right _ ?_ | assumption)) rfl)) ?_
  refine JL.val rfl rfl rfl (.none rfl) (Ev.bin rfl rfl lss_int) ?_
  refine JL.nil ?_
  refine JQ.thenN ?_
  refine JC.knowF rfl ?_ ?_
  · rfl
  refine JC.skip ?_
  refine JQ.thenN ?_
  refine JC.seq ?_
  -- region 3
  refine JC.region ?_
  refine JL.val rfl rfl rfl (.none rfl) (Ev.makeFunc rfl) ?_
  refine JL.val rfl rfl rfl (.none rfl) (Ev.assign rfl) ?_
  refine JL.nil ?_
  refine JQ.thenN ?_
  refine JC.ret ?_
  refine JQ.end1 (H' := [(b3, .cells #[.int .i64 64] 3 (0, 0)), (b2, .cells #[.slice oa len cap] 71 (0, 0))]) (.inl rfl) rfl (.tmp rfl) ?_ ?_
  · first | exact Sub.all | exact Sub.of_cnt (fun a => by (try dsimp only); simp only [cntA]; omega) | repeat (first | exact Sub.nil | refine Sub.cons (by first | exact .here | exact .there .here | exact .there (.there .here) | exact .there (.there (.there .here)) | exact .there (.there (.there (.there .here)))) ?_ | exact Sub.all)
  · exact ⟨b2, b3, rfl, rfl⟩

theorem chunkIter_any (w0 w : World) (l bs bn N cap : Nat) (a : Addr) (HB : Nat → Blocks) (hs : ∀ k, (bs, .cells #[.slice (some a) (64 * N) cap] 71 (0, 0)) ∈ HB k) (hn : ∀ k, (bn, .cells #[.int .i64 64] 3 (0, 0)) ∈ HB k) (hcap : 64 * N ≤ cap) (hmax : 64 * N ≤ 9007199254740992) (hy : ∀ k, k < N → ∀ w1, Hp w0 (HB k) w1 → YieldOk Tryd.prog l #[.slice (some (a.add (64 * k))) 64 64] w1 (fun e w1 => e = .returned (.bool true) ∧ Hp w0 (HB (k + 1)) w1)) (hw : Hp w0 (HB 0) w) :
    Calls Tryd.prog 54 #[.func (.yield l) #[] #[], .pointer (some ⟨bs, 0, none⟩), .pointer (some ⟨bn, 0, none⟩)] w (Ret w0 (fun _ H => H = HB N)) := by
  refine enterAt (vs := [.func (.yield l) #[] #[], .pointer (some ⟨bs, 0, none⟩), .pointer (some ⟨bn, 0, none⟩)]) Tryd.func54 rfl Tryd.ntmps54 rfl hw ?_
  refine JC.seq ?_
  -- region 0
  refine JC.region ?_
  refine JL.val rfl rfl rfl (.none rfl) (Ev.assign rfl) ?_
  refine JL.nil ?_
  refine JQ.thenN ?_
  refine JC.block ?_
  refine JC.loop (X := Nat)
    (fun k => [(0, .func (.yield l) #[] #[]), (1, .pointer (some ⟨bs, 0, none⟩)), (2, .pointer (some ⟨bn, 0, none⟩)), (4, .int .i64 (64 * (k : Int)))])
    (fun k => HB k)
    (fun k => k ≤ N)
    (fun k => N - k) 0 ?_ ?_ ?_ ?_
  · exact Keeps.get (by repeat (first | exact Keeps.nil | refine Keeps.cons rfl ?_))
  · exact Sub.all
  · omega
  rintro k hkN
  refine JC.seq ?_
  refine JC.seq ?_
  -- region 1
  refine JC.region ?_
  refine JL.val rfl rfl rfl (.none rfl) (Ev.move rfl) ?_
  refine JL.val rfl rfl rfl (.none rfl) (Ev.load1 rfl Tryd.underlying71 rfl (Rd.own (hs k) rfl)) ?_
  refine JL.val rfl rfl rfl (.none rfl) (Ev.lenS rfl Tryd.underlying71) ?_
  refine JL.val rfl rfl rfl (.none rfl) (Ev.bin rfl rfl lss_int) ?_
  refine JL.nil ?_
  refine JQ.thenN ?_
  refine JC.cond rfl (fun hc1 => ?_) (fun hc1 => ?_)
  · -- t9 True
    replace hc1 := of_decide_eq_true hc1
    have hk1 : k < N := by omega
    refine JC.skip ?_
    refine JQ.thenN ?_
    refine JC.seq ?_
    refine JC.block ?_
    refine JC.seq ?_
    -- region 3
    refine JC.regionQ (by kernel_rfl) (by kernel_rfl) ?_
    refine JW.val rfl rfl (.none rfl) (Ev.load1 rfl Tryd.underlying3 rfl (Rd.own (hn k) rfl)) ?_
    refine JW.val rfl rfl (.none rfl) (Ev.load1 rfl Tryd.underlying71 rfl (Rd.own (hs k) rfl)) ?_
    refine JW.val rfl rfl (.none rfl) (Ev.move rfl) ?_
    refine JW.val rfl rfl (.none rfl) (Ev.sliceLo rfl rfl Tryd.underlying71 Tryd.sizeOf5 (l := 64 * k) (by omega) (by omega)) ?_
    refine JW.re (d := 16) rfl (sub3_some (by omega)) ?_
    refine JW.val rfl rfl (.none rfl) (Ev.lenS rfl Tryd.underlying71) ?_
    refine JW.val rfl rfl (.none rfl) (Ev.min2 rfl rfl) ?_
    refine JW.re (d := 18) (v' := .int .i64 64) rfl (congrArg (Value.int .i64) (by omega)) ?_
    refine JW.val rfl rfl (.none rfl) (Ev.assign rfl) ?_
    refine JW.nilQ ?_
    refine JQ.thenN ?_
    refine JC.seq ?_
    -- region 4
    refine JC.region ?_
    refine JL.val rfl rfl rfl (.none rfl) (Ev.move rfl) ?_
    refine JL.val rfl rfl rfl (.none rfl) (Ev.load1 rfl Tryd.underlying71 rfl (Rd.own (hs k) rfl)) ?_
    refine JL.val rfl rfl rfl (.none rfl) (Ev.move rfl) ?_
    refine JL.val rfl rfl rfl (.none rfl) (Ev.move rfl) ?_
    refine JL.val rfl rfl rfl (.none rfl) (Ev.move rfl) ?_
    refine JL.val rfl rfl rfl (.none rfl) (Ev.bin rfl rfl (add_i64 (by omega))) ?_
    refine JL.val rfl rfl rfl (.none rfl) (Ev.move rfl) ?_
    refine JL.val rfl rfl rfl (.none rfl) (Ev.move rfl) ?_
    refine JL.val rfl rfl rfl (.none rfl) (Ev.bin rfl rfl (add_i64 (by omega))) ?_
    refine JL.val rfl rfl rfl (.none rfl) (Ev.sliceLHM rfl rfl rfl rfl Tryd.underlying71 Tryd.sizeOf5 (l := 64 * k) (h := 64 * k + 64) (m := 64 * k + 64) (by omega) (by omega) (by omega) (by omega) (by omega) (by omega)) ?_
    refine JL.re (d := 28) (v' := .slice (some (a.add (64 * k))) 64 64) rfl ((sub3_some (by omega)).trans (by congr 1 <;> omega)) ?_
    refine JL.yield rfl rfl (.none rfl) rfl rfl (fun w1 hw1 => hy k hk1 w1 hw1) ?_
    refine JL.val rfl rfl rfl (.none rfl) (Ev.not rfl) ?_
    refine JL.nil ?_
    refine JQ.thenN ?_
    refine JC.condF rfl ?_
    refine JC.skip ?_
    refine JQ.blockN ?_
    refine JQ.thenN ?_
    -- region 2
    refine JC.region ?_
    refine JL.val rfl rfl rfl (.none rfl) (Ev.move rfl) ?_
    refine JL.val rfl rfl rfl (.none rfl) (Ev.load1 rfl Tryd.underlying3 rfl (Rd.own (hn _) rfl)) ?_
    refine JL.val rfl rfl rfl (.none rfl) (Ev.bin rfl rfl (add_i64 (by omega))) ?_
    refine JL.val rfl rfl rfl (.none rfl) (Ev.assign rfl) ?_
    refine JL.nil ?_
    refine JQ.re (d := 4) (v' := .int .i64 (64 * ((k + 1 : Nat) : Int))) rfl (congrArg (Value.int .i64) (by omega)) ?_
    refine JQ.loopN (k + 1) ?_ ?_ ?_ ?_
    · exact Keeps.get (by repeat (first | exact Keeps.nil | refine Keeps.cons rfl ?_))
    · exact Sub.all
    · omega
    · omega
  · -- t9 False
    replace hc1 := of_decide_eq_false hc1
    obtain rfl : k = N := by omega
    refine JC.exit ?_
    refine JQ.thenE ?_
    refine JQ.thenE ?_
    refine JQ.blockE ?_
    refine JQ.end0 (H' := (HB k)) (.inr rfl) rfl  ?_ ?_
    · exact Sub.all
    · exact rfl

theorem sum_any (oa : Option Addr) (cap : Nat) (l : List UInt8) (w : World) (hb : Bs w oa cap l) (hl : l.length ≤ 1000000) (hk : KMem 1 w) (hf : FMem 0 w) :
    Calls Tryd.prog 38 #[.slice oa l.length cap] w (Ret w (fun v _ => v = .agg (arr8 (sha l)))) := by
  refine enterM (vs := [.slice oa l.length cap]) Tryd.func38 rfl Tryd.ntmps38 rfl ?_
  refine JC.seq ?_
  -- region 0
  refine JC.region ?_
  refine JL.new rfl rfl rfl (.none rfl) (En.allocZ (cs := arr8 (List.replicate 32 0)) Tryd.zeroValue22 rfl) (fun b2 hb2 => ?_)
  refine JL.nil ?_
  refine JQ.reH (o' := .cells (arr8 (List.replicate 32 0)) 22 (0, 0)) .here rfl ?_
  refine JQ.thenN ?_
  refine JC.seq ?_
  -- region 1
  refine JC.region ?_
  refine JL.val rfl rfl rfl (.none rfl) (Ev.loadA (a := ⟨0, 0, none⟩) (l := st0.l.map u32) rfl Tryd.underlying78 rfl Tryd.sizeOf78 (Rds.old hf) rfl) ?_
  refine JL.new rfl rfl rfl (.none rfl) (En.allocZ (cs := arr32 (List.replicate 8 0)) Tryd.zeroValue78 rfl) (fun b3 hb3 => ?_)
  refine JL.sto rfl rfl (.none rfl) (Es.storeA rfl rfl Tryd.sizeOf78 (by repeat (first | exact .here | apply Upd.there | apply Upd.left)) (by first | rfl | exact dig_size _ | (rw [arr8_size]; first | exact sha_length _ | exact shaO_length _ | assumption)) (by first | rfl | exact dig_size _ | (rw [arr8_size]; first | exact sha_length _ | exact shaO_length _ | assumption)) (arr32_one st0.l)) ?_
  refine JL.nil ?_
  refine JQ.thenN ?_
  refine JC.seq ?_
  refine JC.seq ?_
  -- region 2
  refine JC.region ?_
  refine JL.val rfl rfl rfl (.none rfl) (Ev.move rfl) ?_
  refine JL.callN rfl (.none rfl) rfl Tryd.call47 (fun w1 hw1 => padded_any oa cap l w1 (hb.old hw1) hl) ?_
  rintro _ _ ⟨r0, rfl, rfl, hr0⟩
  refine JL.callN rfl (.none rfl) rfl Tryd.call46 (fun w1 hw1 => chunk_any (some ⟨r0.g, 0, none⟩) (pad l).length r0.cap w1) ?_
  rintro _ _ ⟨bs, bn, rfl, rfl⟩
  refine JL.nil ?_
  refine JQ.thenN ?_
  refine JC.block ?_
  have hN : 64 * ((pad l).length / 64) = (pad l).length := by have := pad_mod l; omega
  have hmx : (pad l).length ≤ 9007199254740992 := by have := pad_length l; have : zeros l.length < 64 := by { unfold zeros; omega }; omega
  have hcp : (pad l).length ≤ r0.cap := hr0.2.1
  refine JC.range ((pad l).length / 64) (fun k E => (bn, .cells #[.int .i64 64] 3 (0, 0)) :: (bs, .cells #[.slice (some ⟨r0.g, 0, none⟩) (pad l).length r0.cap] 71 (0, 0)) :: (r0.g, .cells r0.cs 5 (0, 0)) :: (b3, .cells (arr32 (foldB (pad l) st0 (k)).l) 78 (0, 0)) :: (b2, .cells (arr8 (List.replicate 32 0)) 22 (0, 0)) :: E) (fun k => .slice (some ((⟨r0.g, 0, none⟩ : Addr).add (64 * k))) 64 64) (fun k => [(2, .pointer (some ⟨b2, 0, none⟩)), (3, .pointer (some ⟨b3, 0, none⟩)), (4, .slice (some ((⟨r0.g, 0, none⟩ : Addr).add (64 * k))) 64 64)]) (fun _ _ => rfl) rfl Tryd.call54 ?_ rfl ?_ ?_ ?_ ?_
  · first | exact Sub.all | exact Sub.of_cnt (fun a => by (try dsimp only); simp only [cntA]; omega) | repeat (first | exact Sub.nil | refine Sub.cons (by first | exact .here | exact .there .here | exact .there (.there .here) | exact .there (.there (.there .here)) | exact .there (.there (.there (.there .here)))) ?_ | exact Sub.all)
  · intro lr E w1 hw1 hy1
    exact chunkIter_any w w1 lr bs bn _ r0.cap _ (fun k => (bn, .cells #[.int .i64 64] 3 (0, 0)) :: (bs, .cells #[.slice (some ⟨r0.g, 0, none⟩) (pad l).length r0.cap] 71 (0, 0)) :: (r0.g, .cells r0.cs 5 (0, 0)) :: (b3, .cells (arr32 (foldB (pad l) st0 (k)).l) 78 (0, 0)) :: (b2, .cells (arr8 (List.replicate 32 0)) 22 (0, 0)) :: E) (fun k => by rw [hN]; exact .tail _ (.head _)) (fun k => .head _) (by omega) (by omega) hy1 hw1
  · intro lr k E hkN
    -- region 3
    refine JC.region ?_
    refine JL.val rfl rfl rfl (.none rfl) (Ev.assign rfl) ?_
    refine JL.nil ?_
    refine JQ.asg ?_
    exact Keeps.get (by repeat (first | exact Keeps.nil | refine Keeps.cons rfl ?_))
  · intro lr k E hkN
    refine JC.block ?_
    -- region 4
    refine JC.region ?_
    refine JL.val rfl rfl rfl (.none rfl) (Ev.loadB rfl (by repeat (first | exact List.Mem.head _ | refine List.Mem.tail _ ?_ | refine List.mem_append_right _ ?_ | assumption)) Tryd.underlying78 rfl Tryd.sizeOf78 (by first | rfl | exact dig_size _ | (rw [arr8_size]; first | exact sha_length _ | exact shaO_length _ | assumption))) ?_
    refine JL.val rfl rfl rfl (.none rfl) (Ev.move rfl) ?_
    refine JL.callV rfl (.none rfl) rfl Tryd.call48 (fun w1 hw1 => (step_any (foldB (pad l) st0 k) ((⟨r0.g, 0, none⟩ : Addr).add (64 * k)) 64 (((pad l).drop (64 * k)).take 64) w1 (hk.old hw1) (BMem.cut (mem_of_row hw1 (.tail _ (.tail _ (.head _))) hr0) _ _) (by simp; omega) (Nat.le_refl _))) ?_
    refine JL.sto rfl rfl (.none rfl) (Es.storeA rfl rfl Tryd.sizeOf78 (by repeat (first | exact .here | apply Upd.there | apply Upd.left)) (by first | rfl | exact dig_size _ | (rw [arr8_size]; first | exact sha_length _ | exact shaO_length _ | assumption)) (by first | rfl | exact dig_size _ | (rw [arr8_size]; first | exact sha_length _ | exact shaO_length _ | assumption)) (arr32_one _)) ?_
    refine JL.nil ?_
    refine JQ.blockN ?_
    refine JQ.bod ?_
    first | exact Sub.all | exact Sub.of_cnt (fun a => by (try dsimp only); simp only [cntA]; omega) | repeat (first | exact Sub.nil | refine Sub.cons (by first | exact .here | exact .there .here | exact .there (.there .here) | exact .there (.there (.there .here)) | exact .there (.there (.there (.there .here)))) ?_ | exact Sub.all)
  intro D E
  generalize hsd : foldB (pad l) st0 ((pad l).length / 64) = s
  refine JQ.blockN ?_
  refine JQ.thenN ?_
  refine JC.seq ?_
  refine JC.seq ?_
  -- region 5
  refine JC.region ?_
  refine JL.val rfl rfl rfl (.none rfl) (Ev.loadB rfl (by repeat (first | exact List.Mem.head _ | refine List.Mem.tail _ ?_ | refine List.mem_append_right _ ?_ | assumption)) Tryd.underlying78 rfl Tryd.sizeOf78 (by first | rfl | exact dig_size _ | (rw [arr8_size]; first | exact sha_length _ | exact shaO_length _ | assumption))) ?_
  refine JL.val rfl rfl rfl (.none rfl) (Ev.move rfl) ?_
  refine JL.nil ?_
  refine JQ.thenN ?_
  refine JC.block ?_
  refine JC.loop (X := Nat)
    (fun i => [(2, .pointer (some ⟨b2, 0, none⟩)), (15, .agg (arr32 s.l)), (16, .int .i64 (i : Int))])
    (fun i => [(b2, .cells (arr8 (outK s i)) 22 (0, 0)), (D, .deferred (some []))])
    (fun i => i ≤ 8)
    (fun i => 8 - i) 0 ?_ ?_ ?_ ?_
  · exact Keeps.get (by repeat (first | exact Keeps.nil | refine Keeps.cons rfl ?_))
  · first | exact Sub.all | exact Sub.of_cnt (fun a => by (try dsimp only); simp only [cntA]; omega) | repeat (first | exact Sub.nil | refine Sub.cons (by first | exact .here | exact .there .here | exact .there (.there .here) | exact .there (.there (.there .here)) | exact .there (.there (.there (.there .here)))) ?_ | exact Sub.all)
  · omega
  rintro i hi8
  refine JC.seq ?_
  -- region 6
  refine JC.region ?_
  refine JL.val rfl rfl rfl (.none rfl) (Ev.bin rfl rfl lss_int) ?_
  refine JL.nil ?_
  refine JQ.thenN ?_
  refine JC.seq ?_
  refine JC.cond rfl (fun hc1 => ?_) (fun hc1 => ?_)
  · -- t17 True
    replace hc1 := of_decide_eq_true hc1
    refine JC.skip ?_
    refine JQ.thenN ?_
    refine JC.seq ?_
    refine JC.block ?_
    refine JC.seq ?_
    -- region 7
    refine JC.region ?_
    refine JL.val rfl rfl rfl (.none rfl) (Ev.move rfl) ?_
    refine JL.val rfl rfl rfl (.none rfl) (Ev.index1 rfl rfl Tryd.underlying78 Tryd.sizeOf77 Tryd.underlying77 rfl (k := i) rfl (by omega) (stl_at s (by omega))) ?_
    refine JL.val rfl rfl rfl (.none rfl) (Ev.assign rfl) ?_
    refine JL.val rfl rfl rfl (.none rfl) (Ev.assign rfl) ?_
    refine JL.nil ?_
    refine JQ.thenN ?_
    -- region 8
    refine JC.region ?_
    refine JL.val rfl rfl rfl (.none rfl) (Ev.move rfl) ?_
    refine JL.val rfl rfl rfl (.none rfl) (Ev.bin rfl rfl (mul_i64 (by omega))) ?_
    refine JL.val rfl rfl rfl (.none rfl) (Ev.sliceALo rfl rfl Tryd.underlying22 Tryd.sizeOf5 (l := 4 * i) (by omega) (by omega)) ?_
    refine JL.re (d := 22) (v' := .slice (some ⟨b2, 4 * i, none⟩) (32 - 4 * i) (32 - 4 * i)) rfl (by rw [add_lit]; congr 3; omega) ?_
    refine JL.val rfl rfl rfl (.none rfl) (Ev.move rfl) ?_
    refine JL.val rfl rfl rfl (.none rfl) (Ev.bin rfl rfl (shr_u32 (n := 24) (by decide))) ?_
    refine JL.val rfl rfl rfl (.none rfl) (Ev.conv rfl (conv_u32_u8 Tryd.underlying77 Tryd.underlying5)) ?_
    refine JL.val rfl rfl rfl (.none rfl) (Ev.move rfl) ?_
    refine JL.val rfl rfl rfl (.none rfl) (Ev.bin rfl rfl (shr_u32 (n := 16) (by decide))) ?_
    refine JL.val rfl rfl rfl (.none rfl) (Ev.conv rfl (conv_u32_u8 Tryd.underlying77 Tryd.underlying5)) ?_
    refine JL.val rfl rfl rfl (.none rfl) (Ev.move rfl) ?_
    refine JL.val rfl rfl rfl (.none rfl) (Ev.bin rfl rfl (shr_u32 (n := 8) (by decide))) ?_
    refine JL.val rfl rfl rfl (.none rfl) (Ev.conv rfl (conv_u32_u8 Tryd.underlying77 Tryd.underlying5)) ?_
    refine JL.val rfl rfl rfl (.none rfl) (Ev.move rfl) ?_
    refine JL.val rfl rfl rfl (.none rfl) (Ev.conv rfl (conv_u32_u8 Tryd.underlying77 Tryd.underlying5)) ?_
    refine JL.new rfl rfl rfl (.none rfl) (En.bsN (e := 5) rfl (fun _ => by kernel_rfl)) (fun b34 hb34 => ?_)
    refine JL.gen rfl rfl rfl (.none rfl) (Eg.copy (b := b2) (n := 4) (o := 4 * i) (l := (four (s.l.getD i 0)).map u8) rfl rfl Tryd.underlying71 Tryd.sizeOf5 (by repeat (first | exact .here | apply Upd.there | apply Upd.left)) (by show 4 = Nat.min 4 (32 - 4 * i); have : Nat.min 4 (32 - 4 * i) = min 4 (32 - 4 * i) := rfl; omega) rfl (Rds.own (by repeat (first | exact List.Mem.head _ | refine List.Mem.tail _ ?_ | refine List.mem_append_right _ ?_ | assumption)) (fun j v hj => by rw [Nat.zero_add, ← hj]; simp [four])) (by rw [arr8_size, outK_length _ (by omega)]; omega) (u8s_one _)) ?_
    rintro _ _ ⟨rfl, rfl⟩
    refine JL.reH (o' := .cells (arr8 (outK s (i + 1))) 22 (0, 0)) (.there .here) (congrArg (fun c => Obj.cells c 22 (0, 0)) (outK_over s (i := i) (by omega))) ?_
    refine JL.nil ?_
    refine JQ.blockN ?_
    refine JQ.thenN ?_
    -- region 9
    refine JC.region ?_
    refine JL.val rfl rfl rfl (.none rfl) (Ev.bin rfl rfl (add_i64 (by omega))) ?_
    refine JL.val rfl rfl rfl (.none rfl) (Ev.move rfl) ?_
    refine JL.nil ?_
    refine JQ.loopN (i + 1) ?_ ?_ ?_ ?_
    · exact Keeps.get (by repeat (first | exact Keeps.nil | refine Keeps.cons rfl ?_))
    · first | exact Sub.all | exact Sub.of_cnt (fun a => by (try dsimp only); simp only [cntA]; omega) | repeat (first | exact Sub.nil | refine Sub.cons (by first | exact .here | exact .there .here | exact .there (.there .here) | exact .there (.there (.there .here)) | exact .there (.there (.there (.there .here)))) ?_ | exact Sub.all)
    · omega
    · omega
  · -- t17 False
    replace hc1 := of_decide_eq_false hc1
    refine JC.exit ?_
    refine JQ.thenE ?_
    refine JQ.thenE ?_
    refine JQ.blockE ?_
    refine JQ.thenN ?_
    refine JC.seq ?_
    -- region 10
    refine JC.region ?_
    obtain rfl : i = 8 := by omega
    refine JL.val rfl rfl rfl (.none rfl) (Ev.loadB rfl (by repeat (first | exact List.Mem.head _ | refine List.Mem.tail _ ?_ | refine List.mem_append_right _ ?_ | assumption)) Tryd.underlying22 rfl Tryd.sizeOf22 (by rw [arr8_size, outK_length _ (by omega)])) ?_
    refine JL.sto rfl rfl (.none rfl) (Es.storeA rfl rfl Tryd.sizeOf22 (by repeat (first | exact .here | apply Upd.there | apply Upd.left)) (by first | rfl | exact dig_size _ | (rw [arr8_size]; first | exact sha_length _ | exact shaO_length _ | assumption)) (by first | rfl | exact dig_size _ | (rw [arr8_size]; first | exact sha_length _ | exact shaO_length _ | assumption)) (arr8_one _)) ?_
    refine JL.nil ?_
    refine JQ.thenN ?_
    refine JC.ret ?_
    refine JQ.endM1 (H' := []) (.inl rfl) rfl (by repeat (first | exact List.Mem.head _ | refine List.Mem.tail _ ?_ | refine List.mem_append_right _ ?_ | assumption)) ⟨_, (by repeat (first | exact .here | apply Upd.there | apply Upd.left)), by first | exact Sub.all | exact Sub.of_cnt (fun a => by (try dsimp only); simp only [cntA]; omega) | repeat (first | exact Sub.nil | refine Sub.cons (by first | exact .here | exact .there .here | exact .there (.there .here) | exact .there (.there (.there .here)) | exact .there (.there (.there (.there .here)))) ?_ | exact Sub.all), (.agg rfl (by repeat (first | exact List.Mem.head _ | refine List.Mem.tail _ ?_ | refine List.mem_append_right _ ?_ | assumption)) Tryd.underlying22 rfl Tryd.sizeOf22 (by first | rfl | exact dig_size _ | (rw [arr8_size]; first | exact sha_length _ | exact shaO_length _ | assumption)))⟩ ?_
    · exact congrArg (fun c => Value.agg (arr8 c)) (by unfold sha; rw [hsd]; rfl)

theorem Sum_any (oa : Option Addr) (cap : Nat) (l : List UInt8) (w : World) (hb : Bs w oa cap l) (hl : l.length ≤ 1000000) (hk : KMem 1 w) (hf : FMem 0 w) :
    Calls Tryd.prog 25 #[.slice oa l.length cap] w (Ret w (fun v _ => v = .tuple #[.agg (arr8 (shaO l)), .int .i64 (if 8192 < l.length then 4 else 0)])) := by
  refine enter (vs := [.slice oa l.length cap]) Tryd.func25 rfl Tryd.ntmps25 rfl ?_
  refine JC.seq ?_
  -- region 0
  refine JC.region ?_
  refine JL.new rfl rfl rfl (.none rfl) (En.allocZ (cs := arr8 (List.replicate 32 0)) Tryd.zeroValue22 rfl) (fun b2 hb2 => ?_)
  refine JL.val rfl rfl rfl (.none rfl) (Ev.assign rfl) ?_
  refine JL.nil ?_
  refine JQ.thenN ?_
  refine JC.seq ?_
  refine JC.seq ?_
  -- region 1
  refine JC.region ?_
  refine JL.val rfl rfl rfl (.none rfl) (Ev.move rfl) ?_
  refine JL.val rfl rfl rfl (.none rfl) (Ev.lenS rfl Tryd.underlying71) ?_
  refine JL.val rfl rfl rfl (.none rfl) (Ev.bin rfl rfl gtr_int) ?_
  refine JL.nil ?_
  refine JQ.thenN ?_
  refine JC.cond rfl (fun hc1 => ?_) (fun hc1 => ?_)
  · -- t6 True
    replace hc1 := of_decide_eq_true hc1
    have hc : 8192 < l.length := by omega
    refine JC.seq ?_
    -- region 2
    refine JC.region ?_
    refine JL.val rfl rfl rfl (.none rfl) (Ev.bu0 Tryd.underlying22 Tryd.sizeOf5 Tryd.zeroValue22) ?_
    refine JL.sto rfl rfl (.none rfl) (Es.storeA rfl rfl Tryd.sizeOf22 (by repeat (first | exact .here | apply Upd.there | apply Upd.left)) (by first | rfl | exact dig_size _ | (rw [arr8_size]; first | exact sha_length _ | exact shaO_length _ | assumption)) (by first | rfl | exact dig_size _ | (rw [arr8_size]; first | exact sha_length _ | exact shaO_length _ | assumption)) (by intro u hu; exact arr8_one (List.replicate 32 0) u hu)) ?_
    refine JL.val rfl rfl rfl (.none rfl) (Ev.assign rfl) ?_
    refine JL.nil ?_
    refine JQ.thenN ?_
    refine JC.ret ?_
    refine JQ.thenR ?_
    refine JQ.end2 (H' := []) (.inl rfl) rfl (.agg rfl (by repeat (first | exact List.Mem.head _ | refine List.Mem.tail _ ?_ | refine List.mem_append_right _ ?_ | assumption)) Tryd.underlying22 rfl Tryd.sizeOf22 (by first | rfl | exact dig_size _ | (rw [arr8_size]; first | exact sha_length _ | exact shaO_length _ | assumption))) (.tmp rfl) ?_ ?_
    · first | exact Sub.all | exact Sub.of_cnt (fun a => by (try dsimp only); simp only [cntA]; omega) | repeat (first | exact Sub.nil | refine Sub.cons (by first | exact .here | exact .there .here | exact .there (.there .here) | exact .there (.there (.there .here)) | exact .there (.there (.there (.there .here)))) ?_ | exact Sub.all)
    · rw [shaO_big hc, if_pos hc]; rfl
  · -- t6 False
    replace hc1 := of_decide_eq_false hc1
    have hc : ¬ 8192 < l.length := by omega
    refine JC.skip ?_
    refine JQ.thenN ?_
    refine JC.seq ?_
    -- region 3
    refine JC.region ?_
    refine JL.val rfl rfl rfl (.none rfl) (Ev.move rfl) ?_
    refine JL.callV rfl (.none rfl) rfl Tryd.call38 (fun w1 hw1 => sum_any oa cap l w1 (hb.old hw1) hl (hk.old hw1) (hf.old hw1)) ?_
    refine JL.sto rfl rfl (.none rfl) (Es.storeA rfl rfl Tryd.sizeOf22 (by repeat (first | exact .here | apply Upd.there | apply Upd.left)) (by first | rfl | exact dig_size _ | (rw [arr8_size]; first | exact sha_length _ | exact shaO_length _ | assumption)) (by first | rfl | exact dig_size _ | (rw [arr8_size]; first | exact sha_length _ | exact shaO_length _ | assumption)) (arr8_one (sha l))) ?_
    refine JL.val rfl rfl rfl (.none rfl) (Ev.assign rfl) ?_
    refine JL.nil ?_
    refine JQ.thenN ?_
    refine JC.ret ?_
    refine JQ.end2 (H' := []) (.inl rfl) rfl (.agg rfl (by repeat (first | exact List.Mem.head _ | refine List.Mem.tail _ ?_ | refine List.mem_append_right _ ?_ | assumption)) Tryd.underlying22 rfl Tryd.sizeOf22 (by first | rfl | exact dig_size _ | (rw [arr8_size]; first | exact sha_length _ | exact shaO_length _ | assumption))) (.tmp rfl) ?_ ?_
    · first | exact Sub.all | exact Sub.of_cnt (fun a => by (try dsimp only); simp only [cntA]; omega) | repeat (first | exact Sub.nil | refine Sub.cons (by first | exact .here | exact .there .here | exact .there (.there .here) | exact .there (.there (.there .here)) | exact .there (.there (.there (.there .here)))) ?_ | exact Sub.all)
    · rw [shaO_small hc, if_neg hc]

end Go.Proofs.YtebinlinhmohbaaDoor
