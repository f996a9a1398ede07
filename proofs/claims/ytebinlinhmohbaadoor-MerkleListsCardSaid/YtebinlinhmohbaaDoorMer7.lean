/-
  Lists with the same root; the law of lists.
-/
import Derived.Test.YtebinlinhmohbaaDoorMer6
namespace Go.Proofs.YtebinlinhmohbaaDoor
open Go Go.RowKit
set_option maxRecDepth 100000

theorem found_any_step (N : Nat) (ih : ∀ (oa : Option Addr) (ob : Option Addr) (ca : Nat) (cb : Nat) (l : List Dig) (m : List Dig) (w : World) (_ : Dl w oa ca l) (_ : Dl w ob cb m) (_ : l.length = m.length) (_ : rootR l = rootR m) (_ : l.length ≤ 1024) (_ : KMem 1 w) (_ : FMem 0 w), l.length < N → Calls Tryd.prog 24 #[.slice oa l.length ca, .slice ob m.length cb] w (Ret w (fun v _ => v = .bool (!decide (l = m))))) (oa : Option Addr) (ob : Option Addr) (ca : Nat) (cb : Nat) (l : List Dig) (m : List Dig) (w : World) (hl : Dl w oa ca l) (hm : Dl w ob cb m) (hlm : l.length = m.length) (hrt : rootR l = rootR m) (hmx : l.length ≤ 1024) (hk : KMem 1 w) (hf : FMem 0 w) (hN : l.length = N) :
    Calls Tryd.prog 24 #[.slice oa l.length ca, .slice ob m.length cb] w (Ret w (fun v _ => v = .bool (!decide (l = m)))) := by
  refine enter (vs := [.slice oa l.length ca, .slice ob m.length cb]) Tryd.func24 rfl Tryd.ntmps24 rfl ?_
  refine JC.seq ?_
  -- region 0
  refine JC.region ?_
  refine JL.val rfl rfl rfl (.none rfl) (Ev.assign rfl) ?_
  refine JL.nil ?_
  refine JQ.thenN ?_
  refine JC.seq ?_
  refine JC.seq ?_
  -- region 1
  refine JC.region ?_
  refine JL.val rfl rfl rfl (.none rfl) (Ev.move rfl) ?_
  refine JL.val rfl rfl rfl (.none rfl) (Ev.lenS rfl Tryd.underlying23) ?_
  refine JL.val rfl rfl rfl (.none rfl) (Ev.bin rfl rfl lss_int) ?_
  refine JL.val rfl rfl rfl (.none rfl) (Ev.move rfl) ?_
  refine JL.split (d := 17) rfl (fun hgA => ?_) (fun hgA => ?_)
  · -- guard 17 true
    have hsmall : l.length < 2 := by have := of_decide_eq_true hgA; omega
    refine JL.skip rfl rfl (.noF rfl rfl rfl) ?_
    refine JL.skip rfl rfl (.noF rfl rfl rfl) ?_
    refine JL.skip rfl rfl (.noF rfl rfl rfl) ?_
    refine JL.val rfl rfl rfl (.none rfl) (Ev.pickT rfl rfl) ?_
    refine JL.nil ?_
    refine JQ.thenN ?_
    refine JC.condT rfl ?_
    refine JC.seq ?_
    -- region 2
    refine JC.region ?_
    refine JL.val rfl rfl rfl (.none rfl) (Ev.assign rfl) ?_
    refine JL.nil ?_
    refine JQ.thenN ?_
    refine JC.ret ?_
    refine JQ.thenR ?_
    refine JQ.end1 (H' := []) (.inl rfl) rfl (.tmp rfl) ?_ ?_
    · first | exact Sub.all | exact Sub.of_cnt (fun a => by (try dsimp only); simp only [cntA]; omega) | repeat (first | exact Sub.nil | refine Sub.cons (by first | exact .here | exact .there .here | exact .there (.there .here) | exact .there (.there (.there .here)) | exact .there (.there (.there (.there .here)))) ?_ | exact Sub.all)
    · first | exact congrArg Value.bool (by rw [decide_eq_true (small_eq hlm hrt hsmall)]; rfl) | exact congrArg Value.bool (by rw [decide_eq_true hcS]; rfl) | exact congrArg Value.bool (by rw [decide_eq_false hcS]; rfl) | exact congrArg Value.bool (by rw [decide_eq_false hcS, decide_eq_false (fun h => hcS (by rw [← List.take_append_drop (bel l.length) l, ← List.take_append_drop (bel l.length) m, htk, h]))])
  · -- guard 17 false
    have h2 : 2 ≤ l.length := by have := of_decide_eq_false hgA; omega
    refine JL.val rfl rfl rfl (.yes rfl rfl rfl) (Ev.move rfl) ?_
    refine JL.val rfl rfl rfl (.yes rfl rfl rfl) (Ev.move rfl) ?_
    refine JL.callV rfl (.yes rfl rfl rfl) rfl Tryd.call21 (fun w1 hw1 => dSame_any oa ob ca cb l m w1 (hl.old hw1) (hm.old hw1) (by omega)) ?_
    refine JL.val rfl rfl rfl (.none rfl) (Ev.pickF rfl rfl) ?_
    refine JL.nil ?_
    refine JQ.thenN ?_
    refine JC.cond rfl (fun hcS => ?_) (fun hcS => ?_)
    · -- t21 True
      replace hcS := of_decide_eq_true hcS
      refine JC.seq ?_
      -- region 2
      refine JC.region ?_
      refine JL.val rfl rfl rfl (.none rfl) (Ev.assign rfl) ?_
      refine JL.nil ?_
      refine JQ.thenN ?_
      refine JC.ret ?_
      refine JQ.thenR ?_
      refine JQ.end1 (H' := []) (.inl rfl) rfl (.tmp rfl) ?_ ?_
      · first | exact Sub.all | exact Sub.of_cnt (fun a => by (try dsimp only); simp only [cntA]; omega) | repeat (first | exact Sub.nil | refine Sub.cons (by first | exact .here | exact .there .here | exact .there (.there .here) | exact .there (.there (.there .here)) | exact .there (.there (.there (.there .here)))) ?_ | exact Sub.all)
      · first | exact congrArg Value.bool (by rw [decide_eq_true (small_eq hlm hrt hsmall)]; rfl) | exact congrArg Value.bool (by rw [decide_eq_true hcS]; rfl) | exact congrArg Value.bool (by rw [decide_eq_false hcS]; rfl) | exact congrArg Value.bool (by rw [decide_eq_false hcS, decide_eq_false (fun h => hcS (by rw [← List.take_append_drop (bel l.length) l, ← List.take_append_drop (bel l.length) m, htk, h]))])
    · -- t21 False
      replace hcS := of_decide_eq_false hcS
      refine JC.skip ?_
      refine JQ.thenN ?_
      refine JC.seq ?_
      -- region 3
      refine JC.region ?_
      refine JL.val rfl rfl rfl (.none rfl) (Ev.assign rfl) ?_
      refine JL.nil ?_
      refine JQ.thenN ?_
      refine JC.seq ?_
      refine JC.block ?_
      refine JC.loop (X := Nat × Nat)
        (fun ⟨j, p⟩ => [(0, .slice oa l.length ca), (1, .slice ob m.length cb), (4, .bool false), (5, .int .i64 (p : Int))])
        (fun ⟨j, p⟩ => [])
        (fun ⟨j, p⟩ => p = 2 ^ j ∧ p < l.length)
        (fun ⟨j, p⟩ => l.length - p) (0, 1) ?_ ?_ ?_ ?_
      · exact Keeps.get (by repeat (first | exact Keeps.nil | refine Keeps.cons rfl ?_))
      · first | exact Sub.all | exact Sub.of_cnt (fun a => by (try dsimp only); simp only [cntA]; omega) | repeat (first | exact Sub.nil | refine Sub.cons (by first | exact .here | exact .there .here | exact .there (.there .here) | exact .there (.there (.there .here)) | exact .there (.there (.there (.there .here)))) ?_ | exact Sub.all)
      · exact ⟨rfl, by omega⟩
      rintro ⟨j, p⟩ ⟨hp, hpn⟩
      have hp1 : 1 ≤ p := by rw [hp]; exact Nat.one_le_two_pow
      refine JC.seq ?_
      refine JC.seq ?_
      -- region 4
      refine JC.region ?_
      refine JL.val rfl rfl rfl (.none rfl) (Ev.move rfl) ?_
      refine JL.val rfl rfl rfl (.none rfl) (Ev.bin rfl rfl (mul_i64 (by omega))) ?_
      refine JL.val rfl rfl rfl (.none rfl) (Ev.move rfl) ?_
      refine JL.val rfl rfl rfl (.none rfl) (Ev.lenS rfl Tryd.underlying23) ?_
      refine JL.val rfl rfl rfl (.none rfl) (Ev.bin rfl rfl lss_int) ?_
      refine JL.nil ?_
      refine JQ.thenN ?_
      refine JC.cond rfl (fun hc1 => ?_) (fun hc1 => ?_)
      · -- t26 True
        replace hc1 := of_decide_eq_true hc1
        refine JC.skip ?_
        refine JQ.thenN ?_
        refine JC.block ?_
        -- region 5
        refine JC.region ?_
        refine JL.val rfl rfl rfl (.none rfl) (Ev.move rfl) ?_
        refine JL.val rfl rfl rfl (.none rfl) (Ev.bin rfl rfl (mul_i64 (by omega))) ?_
        refine JL.val rfl rfl rfl (.none rfl) (Ev.assign rfl) ?_
        refine JL.nil ?_
        refine JQ.blockN ?_
        refine JQ.re (d := 5) (v' := .int .i64 ((2 * p : Nat) : Int)) rfl (congrArg (Value.int .i64) (by omega)) ?_
        refine JQ.loopN (j + 1, 2 * p) ?_ ?_ ?_ ?_
        · exact Keeps.get (by repeat (first | exact Keeps.nil | refine Keeps.cons rfl ?_))
        · first | exact Sub.all | exact Sub.of_cnt (fun a => by (try dsimp only); simp only [cntA]; omega) | repeat (first | exact Sub.nil | refine Sub.cons (by first | exact .here | exact .there .here | exact .there (.there .here) | exact .there (.there (.there .here)) | exact .there (.there (.there (.there .here)))) ?_ | exact Sub.all)
        · exact ⟨by rw [Nat.pow_succ, ← hp]; omega, by omega⟩
        · show l.length - 2 * p < l.length - p; omega
      · -- t26 False
        replace hc1 := of_decide_eq_false hc1
        obtain rfl : p = bel l.length := by rw [hp]; exact (bel_of (by omega) (by rw [Nat.pow_succ, ← hp]; omega)).symm
        have hbl := bel_lt h2
        have hbp := bel_pos l.length
        obtain ⟨ol, eol, hol⟩ := Dl.drop hl (show bel l.length ≤ l.length by omega)
        obtain ⟨om, eom, hom⟩ := Dl.drop hm (show bel l.length ≤ m.length by omega)
        have htl : (l.take (bel l.length)).length = bel l.length := by rw [List.length_take]; omega
        have htm : (m.take (bel l.length)).length = bel l.length := by rw [List.length_take]; omega
        have hdl : (l.drop (bel l.length)).length = l.length - bel l.length := List.length_drop
        have hdm : (m.drop (bel l.length)).length = m.length - bel l.length := List.length_drop
        have hva := rootV_ok (ds := (l.take (bel l.length))) (by omega)
        have hvb := rootV_ok (ds := (l.drop (bel l.length))) (by omega)
        have hvc := rootV_ok (ds := (m.take (bel l.length))) (by omega)
        have hvd := rootV_ok (ds := (m.drop (bel l.length))) (by omega)
        have hn1 : nodeD (rootV (l.take (bel l.length))) (rootV (l.drop (bel l.length))) = nodeD (rootV (m.take (bel l.length))) (rootV (m.drop (bel l.length))) := by have h3 := rootR_split (l := m) (by omega); rw [← hlm] at h3; rw [hva, hvb, hvc, hvd, ← rootR_split h2, ← h3]; exact hrt
        refine JC.exit ?_
        refine JQ.thenE ?_
        refine JQ.thenE ?_
        refine JQ.blockE ?_
        refine JQ.thenN ?_
        refine JC.seq ?_
        -- region 6
        refine JC.region ?_
        refine JL.val rfl rfl rfl (.none rfl) (Ev.move rfl) ?_
        refine JL.val rfl rfl rfl (.none rfl) (Ev.move rfl) ?_
        refine JL.val rfl rfl rfl (.none rfl) (Ev.cast (v' := .slice oa (l.take (bel l.length)).length ca) (by rw [sub3_0, htl]) (Ev.sliceHi rfl rfl Tryd.underlying23 Tryd.sizeOf22 (h := bel l.length) rfl (by have := hl.le; omega))) ?_
        refine JL.callV rfl (.none rfl) rfl Tryd.call17 (fun w1 hw1 => Root_any oa ca (l.take (bel l.length)) w1 (Dl.take (hl.old hw1) (by omega)) (by omega) (hk.old hw1) (hf.old hw1)) ?_
        refine JL.val rfl rfl rfl (.none rfl) (Ev.move rfl) ?_
        refine JL.val rfl rfl rfl (.none rfl) (Ev.ex0 rfl) ?_
        refine JL.val rfl rfl rfl (.none rfl) (Ev.ex1 rfl) ?_
        refine JL.new rfl rfl rfl (.none rfl) (En.allocZ (cs := arr8 (List.replicate 32 0)) Tryd.zeroValue22 rfl) (fun b6 hb6 => ?_)
        refine JL.sto rfl rfl (.none rfl) (Es.storeA rfl rfl Tryd.sizeOf22 (by repeat (first | exact .here | apply Upd.there | apply Upd.left)) (by first | rfl | exact dig_size _ | (rw [arr8_size]; first | exact sha_length _ | exact shaO_length _ | assumption)) (by first | rfl | exact dig_size _ | (rw [arr8_size]; first | exact sha_length _ | exact shaO_length _ | assumption)) (by first | exact arr8_one _ | exact fun u hu => arr8_one (List.replicate 32 0) u hu | (simp; done) | (simp; exact ⟨rfl, rfl⟩))) ?_
        refine JL.val rfl rfl rfl (.none rfl) (Ev.assign rfl) ?_
        refine JL.nil ?_
        refine JQ.thenN ?_
        refine JC.seq ?_
        -- region 7
        refine JC.region ?_
        refine JL.val rfl rfl rfl (.none rfl) (Ev.move rfl) ?_
        refine JL.val rfl rfl rfl (.none rfl) (Ev.move rfl) ?_
        refine JL.val rfl rfl rfl (.none rfl) (Ev.cast (v' := .slice ol (l.drop (bel l.length)).length (ca - bel l.length)) (eol) (Ev.sliceLo rfl rfl Tryd.underlying23 Tryd.sizeOf22 (l := bel l.length) rfl (by omega))) ?_
        refine JL.callV rfl (.none rfl) rfl Tryd.call17 (fun w1 hw1 => Root_any ol (ca - bel l.length) (l.drop (bel l.length)) w1 (hol w1 (hl.old hw1)) (by omega) (hk.old hw1) (hf.old hw1)) ?_
        refine JL.val rfl rfl rfl (.none rfl) (Ev.move rfl) ?_
        refine JL.val rfl rfl rfl (.none rfl) (Ev.ex0 rfl) ?_
        refine JL.val rfl rfl rfl (.none rfl) (Ev.ex1 rfl) ?_
        refine JL.new rfl rfl rfl (.none rfl) (En.allocZ (cs := arr8 (List.replicate 32 0)) Tryd.zeroValue22 rfl) (fun b8 hb8 => ?_)
        refine JL.sto rfl rfl (.none rfl) (Es.storeA rfl rfl Tryd.sizeOf22 (by repeat (first | exact .here | apply Upd.there | apply Upd.left)) (by first | rfl | exact dig_size _ | (rw [arr8_size]; first | exact sha_length _ | exact shaO_length _ | assumption)) (by first | rfl | exact dig_size _ | (rw [arr8_size]; first | exact sha_length _ | exact shaO_length _ | assumption)) (by first | exact arr8_one _ | exact fun u hu => arr8_one (List.replicate 32 0) u hu | (simp; done) | (simp; exact ⟨rfl, rfl⟩))) ?_
        refine JL.val rfl rfl rfl (.none rfl) (Ev.assign rfl) ?_
        refine JL.nil ?_
        refine JQ.thenN ?_
        refine JC.seq ?_
        -- region 8
        refine JC.region ?_
        refine JL.val rfl rfl rfl (.none rfl) (Ev.move rfl) ?_
        refine JL.val rfl rfl rfl (.none rfl) (Ev.move rfl) ?_
        refine JL.val rfl rfl rfl (.none rfl) (Ev.cast (v' := .slice ob (m.take (bel l.length)).length cb) (by rw [sub3_0, htm]) (Ev.sliceHi rfl rfl Tryd.underlying23 Tryd.sizeOf22 (h := bel l.length) rfl (by have := hm.le; omega))) ?_
        refine JL.callV rfl (.none rfl) rfl Tryd.call17 (fun w1 hw1 => Root_any ob cb (m.take (bel l.length)) w1 (Dl.take (hm.old hw1) (by omega)) (by omega) (hk.old hw1) (hf.old hw1)) ?_
        refine JL.val rfl rfl rfl (.none rfl) (Ev.move rfl) ?_
        refine JL.val rfl rfl rfl (.none rfl) (Ev.ex0 rfl) ?_
        refine JL.val rfl rfl rfl (.none rfl) (Ev.ex1 rfl) ?_
        refine JL.new rfl rfl rfl (.none rfl) (En.allocZ (cs := arr8 (List.replicate 32 0)) Tryd.zeroValue22 rfl) (fun b10 hb10 => ?_)
        refine JL.sto rfl rfl (.none rfl) (Es.storeA rfl rfl Tryd.sizeOf22 (by repeat (first | exact .here | apply Upd.there | apply Upd.left)) (by first | rfl | exact dig_size _ | (rw [arr8_size]; first | exact sha_length _ | exact shaO_length _ | assumption)) (by first | rfl | exact dig_size _ | (rw [arr8_size]; first | exact sha_length _ | exact shaO_length _ | assumption)) (by first | exact arr8_one _ | exact fun u hu => arr8_one (List.replicate 32 0) u hu | (simp; done) | (simp; exact ⟨rfl, rfl⟩))) ?_
        refine JL.val rfl rfl rfl (.none rfl) (Ev.assign rfl) ?_
        refine JL.nil ?_
        refine JQ.thenN ?_
        refine JC.seq ?_
        -- region 9
        refine JC.region ?_
        refine JL.val rfl rfl rfl (.none rfl) (Ev.move rfl) ?_
        refine JL.val rfl rfl rfl (.none rfl) (Ev.move rfl) ?_
        refine JL.val rfl rfl rfl (.none rfl) (Ev.cast (v' := .slice om (m.drop (bel l.length)).length (cb - bel l.length)) (eom) (Ev.sliceLo rfl rfl Tryd.underlying23 Tryd.sizeOf22 (l := bel l.length) rfl (by omega))) ?_
        refine JL.callV rfl (.none rfl) rfl Tryd.call17 (fun w1 hw1 => Root_any om (cb - bel l.length) (m.drop (bel l.length)) w1 (hom w1 (hm.old hw1)) (by omega) (hk.old hw1) (hf.old hw1)) ?_
        refine JL.val rfl rfl rfl (.none rfl) (Ev.move rfl) ?_
        refine JL.val rfl rfl rfl (.none rfl) (Ev.ex0 rfl) ?_
        refine JL.val rfl rfl rfl (.none rfl) (Ev.ex1 rfl) ?_
        refine JL.new rfl rfl rfl (.none rfl) (En.allocZ (cs := arr8 (List.replicate 32 0)) Tryd.zeroValue22 rfl) (fun b12 hb12 => ?_)
        refine JL.sto rfl rfl (.none rfl) (Es.storeA rfl rfl Tryd.sizeOf22 (by repeat (first | exact .here | apply Upd.there | apply Upd.left)) (by first | rfl | exact dig_size _ | (rw [arr8_size]; first | exact sha_length _ | exact shaO_length _ | assumption)) (by first | rfl | exact dig_size _ | (rw [arr8_size]; first | exact sha_length _ | exact shaO_length _ | assumption)) (by first | exact arr8_one _ | exact fun u hu => arr8_one (List.replicate 32 0) u hu | (simp; done) | (simp; exact ⟨rfl, rfl⟩))) ?_
        refine JL.val rfl rfl rfl (.none rfl) (Ev.assign rfl) ?_
        refine JL.nil ?_
        refine JQ.thenN ?_
        refine JC.seq ?_
        refine JC.seq ?_
        -- region 10
        refine JC.region ?_
        refine JL.val rfl rfl rfl (.none rfl) (Ev.loadB rfl (by repeat (first | exact List.Mem.head _ | refine List.Mem.tail _ ?_ | refine List.mem_append_right _ ?_ | assumption)) Tryd.underlying22 rfl Tryd.sizeOf22 (by first | rfl | exact dig_size _ | (rw [arr8_size]; first | exact sha_length _ | exact shaO_length _ | assumption))) ?_
        refine JL.val rfl rfl rfl (.none rfl) (Ev.loadB rfl (by repeat (first | exact List.Mem.head _ | refine List.Mem.tail _ ?_ | refine List.mem_append_right _ ?_ | assumption)) Tryd.underlying22 rfl Tryd.sizeOf22 (by first | rfl | exact dig_size _ | (rw [arr8_size]; first | exact sha_length _ | exact shaO_length _ | assumption))) ?_
        refine JL.val rfl rfl rfl (.none rfl) (Ev.loadB rfl (by repeat (first | exact List.Mem.head _ | refine List.Mem.tail _ ?_ | refine List.mem_append_right _ ?_ | assumption)) Tryd.underlying22 rfl Tryd.sizeOf22 (by first | rfl | exact dig_size _ | (rw [arr8_size]; first | exact sha_length _ | exact shaO_length _ | assumption))) ?_
        refine JL.val rfl rfl rfl (.none rfl) (Ev.loadB rfl (by repeat (first | exact List.Mem.head _ | refine List.Mem.tail _ ?_ | refine List.mem_append_right _ ?_ | assumption)) Tryd.underlying22 rfl Tryd.sizeOf22 (by first | rfl | exact dig_size _ | (rw [arr8_size]; first | exact sha_length _ | exact shaO_length _ | assumption))) ?_
        refine JL.callV rfl (.none rfl) rfl Tryd.call29 (fun w1 hw1 => clash_any _ _ _ _ w1 (hk.old hw1) (hf.old hw1)) ?_
        refine JL.nil ?_
        refine JQ.thenN ?_
        refine JC.cond rfl (fun hcl => ?_) (fun hcl => ?_)
        · -- t61 True
          refine JC.seq ?_
          -- region 11
          refine JC.region ?_
          refine JL.val rfl rfl rfl (.none rfl) (Ev.assign rfl) ?_
          refine JL.nil ?_
          refine JQ.thenN ?_
          refine JC.ret ?_
          refine JQ.thenR ?_
          refine JQ.end1 (H' := []) (.inl rfl) rfl (.tmp rfl) ?_ ?_
          · first | exact Sub.all | exact Sub.of_cnt (fun a => by (try dsimp only); simp only [cntA]; omega) | repeat (first | exact Sub.nil | refine Sub.cons (by first | exact .here | exact .there .here | exact .there (.there .here) | exact .there (.there (.there .here)) | exact .there (.there (.there (.there .here)))) ?_ | exact Sub.all)
          · first | exact congrArg Value.bool (by rw [decide_eq_true (small_eq hlm hrt hsmall)]; rfl) | exact congrArg Value.bool (by rw [decide_eq_true hcS]; rfl) | exact congrArg Value.bool (by rw [decide_eq_false hcS]; rfl) | exact congrArg Value.bool (by rw [decide_eq_false hcS, decide_eq_false (fun h => hcS (by rw [← List.take_append_drop (bel l.length) l, ← List.take_append_drop (bel l.length) m, htk, h]))])
        · -- t61 False
          obtain ⟨hac, hbd⟩ := clash_no hn1 hcl
          have hrT : rootR (l.take (bel l.length)) = rootR (m.take (bel l.length)) := by rw [← hva, ← hvc, hac]
          have hrD : rootR (l.drop (bel l.length)) = rootR (m.drop (bel l.length)) := by rw [← hvb, ← hvd, hbd]
          refine JC.skip ?_
          refine JQ.thenN ?_
          refine JC.seq ?_
          -- region 12
          refine JC.regionA (by kernel_rfl) ?_
          refine JA.branch [0, 1] (by kernel_rfl) rfl ?_
          refine JAll.cons rfl ?_ ?_
          · -- 0
            refine JO.val rfl rfl rfl (.none rfl) (Ev.loadB rfl (by repeat (first | exact List.Mem.head _ | refine List.Mem.tail _ ?_ | refine List.mem_append_right _ ?_ | assumption)) Tryd.underlying22 rfl Tryd.sizeOf22 (by first | rfl | exact dig_size _ | (rw [arr8_size]; first | exact sha_length _ | exact shaO_length _ | assumption))) ?_
            refine JA.branch [1] (by kernel_rfl) rfl ?_
            refine JAll.cons rfl ?_ JAll.nil
            refine JO.val rfl rfl rfl (.none rfl) (Ev.loadB rfl (by repeat (first | exact List.Mem.head _ | refine List.Mem.tail _ ?_ | refine List.mem_append_right _ ?_ | assumption)) Tryd.underlying22 rfl Tryd.sizeOf22 (by first | rfl | exact dig_size _ | (rw [arr8_size]; first | exact sha_length _ | exact shaO_length _ | assumption))) ?_
            refine JA.takeR 2 (by kernel_rfl) rfl rfl rfl (by kernel_rfl) (by kernel_rfl) (by kernel_rfl) (fun _ _ _ h => h) (fun _ _ => rfl) (.none rfl) (fun _ => (Ev.bin rfl rfl (eql_arr8 (n := 32) Tryd.underlying22 Tryd.underlying5 (by kernel_rfl) (by kernel_rfl) (by first | rfl | exact dig_len _ | assumption | exact sha_length _ | exact shaO_length _) (by first | rfl | exact dig_len _ | assumption | exact sha_length _ | exact shaO_length _)))) ?_
            refine JA.takeR 3 (by kernel_rfl) rfl rfl rfl (by kernel_rfl) (by kernel_rfl) (by kernel_rfl) (fun _ _ _ h => h) (fun _ _ => rfl) (.none rfl) (fun _ => (Ev.move rfl)) ?_
            refine JA.know (d := 65) (b := true) rfl ?_ ?_
            · exact decide_eq_true (congrArg Subtype.val hac)
            refine JA.takeR 4 (by kernel_rfl) rfl rfl rfl (by kernel_rfl) (by kernel_rfl) (by kernel_rfl) (fun _ _ _ h => h) (fun _ _ => rfl) (.yes rfl rfl rfl) (fun _ => (Ev.move rfl)) ?_
            refine JA.takeR 5 (by kernel_rfl) rfl rfl rfl (by kernel_rfl) (by kernel_rfl) (by kernel_rfl) (fun _ _ _ h => h) (fun _ _ => rfl) (.yes rfl rfl rfl) (fun _ => (Ev.move rfl)) ?_
            refine JA.takeR 6 (by kernel_rfl) rfl rfl rfl (by kernel_rfl) (by kernel_rfl) (by kernel_rfl) (fun _ _ _ h => h) (fun _ _ => rfl) (.yes rfl rfl rfl) (fun _ => (Ev.cast (v' := .slice oa (l.take (bel l.length)).length ca) (by rw [sub3_0, htl]) (Ev.sliceHi rfl rfl Tryd.underlying23 Tryd.sizeOf22 (h := bel l.length) rfl (by have := hl.le; omega)))) ?_
            refine JA.takeR 7 (by kernel_rfl) rfl rfl rfl (by kernel_rfl) (by kernel_rfl) (by kernel_rfl) (fun _ _ _ h => h) (fun _ _ => rfl) (.yes rfl rfl rfl) (fun _ => (Ev.move rfl)) ?_
            refine JA.takeR 8 (by kernel_rfl) rfl rfl rfl (by kernel_rfl) (by kernel_rfl) (by kernel_rfl) (fun _ _ _ h => h) (fun _ _ => rfl) (.yes rfl rfl rfl) (fun _ => (Ev.move rfl)) ?_
            refine JA.takeR 9 (by kernel_rfl) rfl rfl rfl (by kernel_rfl) (by kernel_rfl) (by kernel_rfl) (fun _ _ _ h => h) (fun _ _ => rfl) (.yes rfl rfl rfl) (fun _ => (Ev.cast (v' := .slice ob (m.take (bel l.length)).length cb) (by rw [sub3_0, htm]) (Ev.sliceHi rfl rfl Tryd.underlying23 Tryd.sizeOf22 (h := bel l.length) rfl (by have := hm.le; omega)))) ?_
            refine JA.branch [10] (by kernel_rfl) rfl ?_
            refine JAll.cons rfl ?_ JAll.nil
            refine JO.callV rfl (.yes rfl rfl rfl) rfl Tryd.call24 (fun w1 hw1 => ih oa ob ca cb (l.take (bel l.length)) (m.take (bel l.length)) w1 (Dl.take (hl.old hw1) (by omega)) (Dl.take (hm.old hw1) (by omega)) (by omega) hrT (by omega) (hk.old hw1) (hf.old hw1) (by omega)) ?_
            refine JA.takeR 11 (by kernel_rfl) rfl rfl rfl (by kernel_rfl) (by kernel_rfl) (by kernel_rfl) (fun _ _ _ h => h) (fun _ _ => rfl) (.none rfl) (fun _ => (Ev.pickT rfl rfl)) ?_
            refine JA.takeR 12 (by kernel_rfl) rfl rfl rfl (by kernel_rfl) (by kernel_rfl) (by kernel_rfl) (fun _ _ _ h => h) (fun _ _ => rfl) (.none rfl) (fun _ => (Ev.move rfl)) ?_
            refine JA.split (d := 74) rfl (fun hgT => ?_) (fun hgT => ?_)
            · -- guard 74 true
              refine JA.branch [13, 14] (by kernel_rfl) rfl ?_
              refine JAll.cons rfl ?_ ?_
              · -- 13
                refine JO.skip rfl rfl (.noF rfl rfl rfl) ?_
                refine JA.branch [14] (by kernel_rfl) rfl ?_
                refine JAll.cons rfl ?_ JAll.nil
                refine JO.skip rfl rfl (.noF rfl rfl rfl) ?_
                refine JA.skipR 15 (by kernel_rfl) rfl rfl rfl (by kernel_rfl) (by kernel_rfl) (by kernel_rfl) (fun _ _ _ h => h) (fun _ _ => rfl) (.noF rfl rfl rfl) ?_
                refine JA.skipR 16 (by kernel_rfl) rfl rfl rfl (by kernel_rfl) (by kernel_rfl) (by kernel_rfl) (fun _ _ _ h => h) (fun _ _ => rfl) (.noF rfl rfl rfl) ?_
                refine JA.skipW 17 (by kernel_rfl) rfl rfl rfl (by kernel_rfl) (by kernel_rfl) (by kernel_rfl) (fun _ _ _ h => h) (fun _ _ => rfl) (wantU rfl rfl rfl) ?_
                refine JA.skipW 18 (by kernel_rfl) rfl rfl rfl (by kernel_rfl) (by kernel_rfl) (by kernel_rfl) (fun _ _ _ h => h) (fun _ _ => rfl) (wantU rfl rfl rfl) ?_
                refine JA.skipW 19 (by kernel_rfl) rfl rfl rfl (by kernel_rfl) (by kernel_rfl) (by kernel_rfl) (fun _ _ _ h => h) (fun _ _ => rfl) (wantU rfl rfl rfl) ?_
                refine JA.skipW 20 (by kernel_rfl) rfl rfl rfl (by kernel_rfl) (by kernel_rfl) (by kernel_rfl) (fun _ _ _ h => h) (fun _ _ => rfl) (wantU rfl rfl rfl) ?_
                refine JA.skipW 21 (by kernel_rfl) rfl rfl rfl (by kernel_rfl) (by kernel_rfl) (by kernel_rfl) (fun _ _ _ h => h) (fun _ _ => rfl) (wantU rfl rfl rfl) ?_
                refine JA.skipW 22 (by kernel_rfl) rfl rfl rfl (by kernel_rfl) (by kernel_rfl) (by kernel_rfl) (fun _ _ _ h => h) (fun _ _ => rfl) (wantU rfl rfl rfl) ?_
                refine JA.branch [23] (by kernel_rfl) rfl ?_
                refine JAll.cons rfl ?_ JAll.nil
                refine JO.skipW rfl rfl (wantU rfl rfl rfl) ?_
                refine JA.skipR 24 (by kernel_rfl) rfl rfl rfl (by kernel_rfl) (by kernel_rfl) (by kernel_rfl) (fun _ _ _ h => h) (fun _ _ => rfl) (.noF rfl rfl rfl) ?_
                refine JA.takeR 25 (by kernel_rfl) rfl rfl rfl (by kernel_rfl) (by kernel_rfl) (by kernel_rfl) (fun _ _ _ h => h) (fun _ _ => rfl) (.none rfl) (fun _ => (Ev.pickT rfl rfl)) ?_
                refine JA.takeR 26 (by kernel_rfl) rfl rfl rfl (by kernel_rfl) (by kernel_rfl) (by kernel_rfl) (fun _ _ _ h => h) (fun _ _ => rfl) (.none rfl) (fun _ => (Ev.assign rfl)) ?_
                refine JA.done (by kernel_rfl) ?_
                refine JQ.thenN ?_
                refine JC.ret ?_
                refine JQ.end1 (H' := []) (.inl rfl) rfl (.tmp rfl) ?_ ?_
                · first | exact Sub.all | exact Sub.of_cnt (fun a => by (try dsimp only); simp only [cntA]; omega) | repeat (first | exact Sub.nil | refine Sub.cons (by first | exact .here | exact .there .here | exact .there (.there .here) | exact .there (.there (.there .here)) | exact .there (.there (.there (.there .here)))) ?_ | exact Sub.all)
                · first | exact congrArg Value.bool (by rw [decide_eq_true (small_eq hlm hrt hsmall)]; rfl) | exact congrArg Value.bool (by rw [decide_eq_true hcS]; rfl) | exact congrArg Value.bool (by rw [decide_eq_false hcS]; rfl) | exact congrArg Value.bool (by rw [decide_eq_false hcS, decide_eq_false (fun h => hcS (by rw [← List.take_append_drop (bel l.length) l, ← List.take_append_drop (bel l.length) m, htk, h]))])
              refine JAll.cons rfl ?_ JAll.nil
              refine JO.skip rfl rfl (.noF rfl rfl rfl) ?_
              refine JA.branch [13] (by kernel_rfl) rfl ?_
              refine JAll.cons rfl ?_ JAll.nil
              refine JO.skip rfl rfl (.noF rfl rfl rfl) ?_
              refine JA.skipR 15 (by kernel_rfl) rfl rfl rfl (by kernel_rfl) (by kernel_rfl) (by kernel_rfl) (fun _ _ _ h => h) (fun _ _ => rfl) (.noF rfl rfl rfl) ?_
              refine JA.skipR 16 (by kernel_rfl) rfl rfl rfl (by kernel_rfl) (by kernel_rfl) (by kernel_rfl) (fun _ _ _ h => h) (fun _ _ => rfl) (.noF rfl rfl rfl) ?_
              refine JA.skipW 17 (by kernel_rfl) rfl rfl rfl (by kernel_rfl) (by kernel_rfl) (by kernel_rfl) (fun _ _ _ h => h) (fun _ _ => rfl) (wantU rfl rfl rfl) ?_
              refine JA.skipW 18 (by kernel_rfl) rfl rfl rfl (by kernel_rfl) (by kernel_rfl) (by kernel_rfl) (fun _ _ _ h => h) (fun _ _ => rfl) (wantU rfl rfl rfl) ?_
              refine JA.skipW 19 (by kernel_rfl) rfl rfl rfl (by kernel_rfl) (by kernel_rfl) (by kernel_rfl) (fun _ _ _ h => h) (fun _ _ => rfl) (wantU rfl rfl rfl) ?_
              refine JA.skipW 20 (by kernel_rfl) rfl rfl rfl (by kernel_rfl) (by kernel_rfl) (by kernel_rfl) (fun _ _ _ h => h) (fun _ _ => rfl) (wantU rfl rfl rfl) ?_
              refine JA.skipW 21 (by kernel_rfl) rfl rfl rfl (by kernel_rfl) (by kernel_rfl) (by kernel_rfl) (fun _ _ _ h => h) (fun _ _ => rfl) (wantU rfl rfl rfl) ?_
              refine JA.skipW 22 (by kernel_rfl) rfl rfl rfl (by kernel_rfl) (by kernel_rfl) (by kernel_rfl) (fun _ _ _ h => h) (fun _ _ => rfl) (wantU rfl rfl rfl) ?_
              refine JA.branch [23] (by kernel_rfl) rfl ?_
              refine JAll.cons rfl ?_ JAll.nil
              refine JO.skipW rfl rfl (wantU rfl rfl rfl) ?_
              refine JA.skipR 24 (by kernel_rfl) rfl rfl rfl (by kernel_rfl) (by kernel_rfl) (by kernel_rfl) (fun _ _ _ h => h) (fun _ _ => rfl) (.noF rfl rfl rfl) ?_
              refine JA.takeR 25 (by kernel_rfl) rfl rfl rfl (by kernel_rfl) (by kernel_rfl) (by kernel_rfl) (fun _ _ _ h => h) (fun _ _ => rfl) (.none rfl) (fun _ => (Ev.pickT rfl rfl)) ?_
              refine JA.takeR 26 (by kernel_rfl) rfl rfl rfl (by kernel_rfl) (by kernel_rfl) (by kernel_rfl) (fun _ _ _ h => h) (fun _ _ => rfl) (.none rfl) (fun _ => (Ev.assign rfl)) ?_
              refine JA.done (by kernel_rfl) ?_
              refine JQ.thenN ?_
              refine JC.ret ?_
              refine JQ.end1 (H' := []) (.inl rfl) rfl (.tmp rfl) ?_ ?_
              · first | exact Sub.all | exact Sub.of_cnt (fun a => by (try dsimp only); simp only [cntA]; omega) | repeat (first | exact Sub.nil | refine Sub.cons (by first | exact .here | exact .there .here | exact .there (.there .here) | exact .there (.there (.there .here)) | exact .there (.there (.there (.there .here)))) ?_ | exact Sub.all)
              · first | exact congrArg Value.bool (by rw [decide_eq_true (small_eq hlm hrt hsmall)]; rfl) | exact congrArg Value.bool (by rw [decide_eq_true hcS]; rfl) | exact congrArg Value.bool (by rw [decide_eq_false hcS]; rfl) | exact congrArg Value.bool (by rw [decide_eq_false hcS, decide_eq_false (fun h => hcS (by rw [← List.take_append_drop (bel l.length) l, ← List.take_append_drop (bel l.length) m, htk, h]))])
            · -- guard 74 false
              have htk : (l.take (bel l.length)) = (m.take (bel l.length)) := by simpa using hgT
              refine JA.branch [13, 14] (by kernel_rfl) rfl ?_
              refine JAll.cons rfl ?_ ?_
              · -- 13
                refine JO.val rfl rfl rfl (.yes rfl rfl rfl) (Ev.loadB rfl (by repeat (first | exact List.Mem.head _ | refine List.Mem.tail _ ?_ | refine List.mem_append_right _ ?_ | assumption)) Tryd.underlying22 rfl Tryd.sizeOf22 (by first | rfl | exact dig_size _ | (rw [arr8_size]; first | exact sha_length _ | exact shaO_length _ | assumption))) ?_
                refine JA.branch [14] (by kernel_rfl) rfl ?_
                refine JAll.cons rfl ?_ JAll.nil
                refine JO.val rfl rfl rfl (.yes rfl rfl rfl) (Ev.loadB rfl (by repeat (first | exact List.Mem.head _ | refine List.Mem.tail _ ?_ | refine List.mem_append_right _ ?_ | assumption)) Tryd.underlying22 rfl Tryd.sizeOf22 (by first | rfl | exact dig_size _ | (rw [arr8_size]; first | exact sha_length _ | exact shaO_length _ | assumption))) ?_
                refine JA.takeR 15 (by kernel_rfl) rfl rfl rfl (by kernel_rfl) (by kernel_rfl) (by kernel_rfl) (fun _ _ _ h => h) (fun _ _ => rfl) (.yes rfl rfl rfl) (fun _ => (Ev.bin rfl rfl (eql_arr8 (n := 32) Tryd.underlying22 Tryd.underlying5 (by kernel_rfl) (by kernel_rfl) (by first | rfl | exact dig_len _ | assumption | exact sha_length _ | exact shaO_length _) (by first | rfl | exact dig_len _ | assumption | exact sha_length _ | exact shaO_length _)))) ?_
                refine JA.takeR 16 (by kernel_rfl) rfl rfl rfl (by kernel_rfl) (by kernel_rfl) (by kernel_rfl) (fun _ _ _ h => h) (fun _ _ => rfl) (.yes rfl rfl rfl) (fun _ => (Ev.move rfl)) ?_
                refine JA.know (d := 78) (b := true) rfl ?_ ?_
                · exact decide_eq_true (congrArg Subtype.val hbd)
                refine JA.takeR 17 (by kernel_rfl) rfl rfl rfl (by kernel_rfl) (by kernel_rfl) (by kernel_rfl) (fun _ _ _ h => h) (fun _ _ => rfl) (.yes rfl rfl rfl) (fun _ => (Ev.move rfl)) ?_
                refine JA.takeR 18 (by kernel_rfl) rfl rfl rfl (by kernel_rfl) (by kernel_rfl) (by kernel_rfl) (fun _ _ _ h => h) (fun _ _ => rfl) (.yes rfl rfl rfl) (fun _ => (Ev.move rfl)) ?_
                refine JA.takeR 19 (by kernel_rfl) rfl rfl rfl (by kernel_rfl) (by kernel_rfl) (by kernel_rfl) (fun _ _ _ h => h) (fun _ _ => rfl) (.yes rfl rfl rfl) (fun _ => (Ev.cast (v' := .slice ol (l.drop (bel l.length)).length (ca - bel l.length)) (eol) (Ev.sliceLo rfl rfl Tryd.underlying23 Tryd.sizeOf22 (l := bel l.length) rfl (by omega)))) ?_
                refine JA.takeR 20 (by kernel_rfl) rfl rfl rfl (by kernel_rfl) (by kernel_rfl) (by kernel_rfl) (fun _ _ _ h => h) (fun _ _ => rfl) (.yes rfl rfl rfl) (fun _ => (Ev.move rfl)) ?_
                refine JA.takeR 21 (by kernel_rfl) rfl rfl rfl (by kernel_rfl) (by kernel_rfl) (by kernel_rfl) (fun _ _ _ h => h) (fun _ _ => rfl) (.yes rfl rfl rfl) (fun _ => (Ev.move rfl)) ?_
                refine JA.takeR 22 (by kernel_rfl) rfl rfl rfl (by kernel_rfl) (by kernel_rfl) (by kernel_rfl) (fun _ _ _ h => h) (fun _ _ => rfl) (.yes rfl rfl rfl) (fun _ => (Ev.cast (v' := .slice om (m.drop (bel l.length)).length (cb - bel l.length)) (eom) (Ev.sliceLo rfl rfl Tryd.underlying23 Tryd.sizeOf22 (l := bel l.length) rfl (by omega)))) ?_
                refine JA.branch [23] (by kernel_rfl) rfl ?_
                refine JAll.cons rfl ?_ JAll.nil
                refine JO.callV rfl (.yes rfl rfl rfl) rfl Tryd.call24 (fun w1 hw1 => ih ol om (ca - bel l.length) (cb - bel l.length) (l.drop (bel l.length)) (m.drop (bel l.length)) w1 (hol w1 (hl.old hw1)) (hom w1 (hm.old hw1)) (by omega) hrD (by omega) (hk.old hw1) (hf.old hw1) (by omega)) ?_
                refine JA.takeR 24 (by kernel_rfl) rfl rfl rfl (by kernel_rfl) (by kernel_rfl) (by kernel_rfl) (fun _ _ _ h => h) (fun _ _ => rfl) (.yes rfl rfl rfl) (fun _ => (Ev.pickT rfl rfl)) ?_
                refine JA.takeR 25 (by kernel_rfl) rfl rfl rfl (by kernel_rfl) (by kernel_rfl) (by kernel_rfl) (fun _ _ _ h => h) (fun _ _ => rfl) (.none rfl) (fun _ => (Ev.pickF rfl rfl)) ?_
                refine JA.takeR 26 (by kernel_rfl) rfl rfl rfl (by kernel_rfl) (by kernel_rfl) (by kernel_rfl) (fun _ _ _ h => h) (fun _ _ => rfl) (.none rfl) (fun _ => (Ev.assign rfl)) ?_
                refine JA.done (by kernel_rfl) ?_
                refine JQ.thenN ?_
                refine JC.ret ?_
                refine JQ.end1 (H' := []) (.inl rfl) rfl (.tmp rfl) ?_ ?_
                · first | exact Sub.all | exact Sub.of_cnt (fun a => by (try dsimp only); simp only [cntA]; omega) | repeat (first | exact Sub.nil | refine Sub.cons (by first | exact .here | exact .there .here | exact .there (.there .here) | exact .there (.there (.there .here)) | exact .there (.there (.there (.there .here)))) ?_ | exact Sub.all)
                · first | exact congrArg Value.bool (by rw [decide_eq_true (small_eq hlm hrt hsmall)]; rfl) | exact congrArg Value.bool (by rw [decide_eq_true hcS]; rfl) | exact congrArg Value.bool (by rw [decide_eq_false hcS]; rfl) | exact congrArg Value.bool (by rw [decide_eq_false hcS, decide_eq_false (fun h => hcS (by rw [← List.take_append_drop (bel l.length) l, ← List.take_append_drop (bel l.length) m, htk, h]))])
              refine JAll.cons rfl ?_ JAll.nil
              refine JO.val rfl rfl rfl (.yes rfl rfl rfl) (Ev.loadB rfl (by repeat (first | exact List.Mem.head _ | refine List.Mem.tail _ ?_ | refine List.mem_append_right _ ?_ | assumption)) Tryd.underlying22 rfl Tryd.sizeOf22 (by first | rfl | exact dig_size _ | (rw [arr8_size]; first | exact sha_length _ | exact shaO_length _ | assumption))) ?_
              refine JA.branch [13] (by kernel_rfl) rfl ?_
              refine JAll.cons rfl ?_ JAll.nil
              refine JO.val rfl rfl rfl (.yes rfl rfl rfl) (Ev.loadB rfl (by repeat (first | exact List.Mem.head _ | refine List.Mem.tail _ ?_ | refine List.mem_append_right _ ?_ | assumption)) Tryd.underlying22 rfl Tryd.sizeOf22 (by first | rfl | exact dig_size _ | (rw [arr8_size]; first | exact sha_length _ | exact shaO_length _ | assumption))) ?_
              refine JA.takeR 15 (by kernel_rfl) rfl rfl rfl (by kernel_rfl) (by kernel_rfl) (by kernel_rfl) (fun _ _ _ h => h) (fun _ _ => rfl) (.yes rfl rfl rfl) (fun _ => (Ev.bin rfl rfl (eql_arr8 (n := 32) Tryd.underlying22 Tryd.underlying5 (by kernel_rfl) (by kernel_rfl) (by first | rfl | exact dig_len _ | assumption | exact sha_length _ | exact shaO_length _) (by first | rfl | exact dig_len _ | assumption | exact sha_length _ | exact shaO_length _)))) ?_
              refine JA.takeR 16 (by kernel_rfl) rfl rfl rfl (by kernel_rfl) (by kernel_rfl) (by kernel_rfl) (fun _ _ _ h => h) (fun _ _ => rfl) (.yes rfl rfl rfl) (fun _ => (Ev.move rfl)) ?_
              refine JA.know (d := 78) (b := true) rfl ?_ ?_
              · exact decide_eq_true (congrArg Subtype.val hbd)
              refine JA.takeR 17 (by kernel_rfl) rfl rfl rfl (by kernel_rfl) (by kernel_rfl) (by kernel_rfl) (fun _ _ _ h => h) (fun _ _ => rfl) (.yes rfl rfl rfl) (fun _ => (Ev.move rfl)) ?_
              refine JA.takeR 18 (by kernel_rfl) rfl rfl rfl (by kernel_rfl) (by kernel_rfl) (by kernel_rfl) (fun _ _ _ h => h) (fun _ _ => rfl) (.yes rfl rfl rfl) (fun _ => (Ev.move rfl)) ?_
              refine JA.takeR 19 (by kernel_rfl) rfl rfl rfl (by kernel_rfl) (by kernel_rfl) (by kernel_rfl) (fun _ _ _ h => h) (fun _ _ => rfl) (.yes rfl rfl rfl) (fun _ => (Ev.cast (v' := .slice ol (l.drop (bel l.length)).length (ca - bel l.length)) (eol) (Ev.sliceLo rfl rfl Tryd.underlying23 Tryd.sizeOf22 (l := bel l.length) rfl (by omega)))) ?_
              refine JA.takeR 20 (by kernel_rfl) rfl rfl rfl (by kernel_rfl) (by kernel_rfl) (by kernel_rfl) (fun _ _ _ h => h) (fun _ _ => rfl) (.yes rfl rfl rfl) (fun _ => (Ev.move rfl)) ?_
              refine JA.takeR 21 (by kernel_rfl) rfl rfl rfl (by kernel_rfl) (by kernel_rfl) (by kernel_rfl) (fun _ _ _ h => h) (fun _ _ => rfl) (.yes rfl rfl rfl) (fun _ => (Ev.move rfl)) ?_
              refine JA.takeR 22 (by kernel_rfl) rfl rfl rfl (by kernel_rfl) (by kernel_rfl) (by kernel_rfl) (fun _ _ _ h => h) (fun _ _ => rfl) (.yes rfl rfl rfl) (fun _ => (Ev.cast (v' := .slice om (m.drop (bel l.length)).length (cb - bel l.length)) (eom) (Ev.sliceLo rfl rfl Tryd.underlying23 Tryd.sizeOf22 (l := bel l.length) rfl (by omega)))) ?_
              refine JA.branch [23] (by kernel_rfl) rfl ?_
              refine JAll.cons rfl ?_ JAll.nil
              refine JO.callV rfl (.yes rfl rfl rfl) rfl Tryd.call24 (fun w1 hw1 => ih ol om (ca - bel l.length) (cb - bel l.length) (l.drop (bel l.length)) (m.drop (bel l.length)) w1 (hol w1 (hl.old hw1)) (hom w1 (hm.old hw1)) (by omega) hrD (by omega) (hk.old hw1) (hf.old hw1) (by omega)) ?_
              refine JA.takeR 24 (by kernel_rfl) rfl rfl rfl (by kernel_rfl) (by kernel_rfl) (by kernel_rfl) (fun _ _ _ h => h) (fun _ _ => rfl) (.yes rfl rfl rfl) (fun _ => (Ev.pickT rfl rfl)) ?_
              refine JA.takeR 25 (by kernel_rfl) rfl rfl rfl (by kernel_rfl) (by kernel_rfl) (by kernel_rfl) (fun _ _ _ h => h) (fun _ _ => rfl) (.none rfl) (fun _ => (Ev.pickF rfl rfl)) ?_
              refine JA.takeR 26 (by kernel_rfl) rfl rfl rfl (by kernel_rfl) (by kernel_rfl) (by kernel_rfl) (fun _ _ _ h => h) (fun _ _ => rfl) (.none rfl) (fun _ => (Ev.assign rfl)) ?_
              refine JA.done (by kernel_rfl) ?_
              refine JQ.thenN ?_
              refine JC.ret ?_
              refine JQ.end1 (H' := []) (.inl rfl) rfl (.tmp rfl) ?_ ?_
              · first | exact Sub.all | exact Sub.of_cnt (fun a => by (try dsimp only); simp only [cntA]; omega) | repeat (first | exact Sub.nil | refine Sub.cons (by first | exact .here | exact .there .here | exact .there (.there .here) | exact .there (.there (.there .here)) | exact .there (.there (.there (.there .here)))) ?_ | exact Sub.all)
              · first | exact congrArg Value.bool (by rw [decide_eq_true (small_eq hlm hrt hsmall)]; rfl) | exact congrArg Value.bool (by rw [decide_eq_true hcS]; rfl) | exact congrArg Value.bool (by rw [decide_eq_false hcS]; rfl) | exact congrArg Value.bool (by rw [decide_eq_false hcS, decide_eq_false (fun h => hcS (by rw [← List.take_append_drop (bel l.length) l, ← List.take_append_drop (bel l.length) m, htk, h]))])
          refine JAll.cons rfl ?_ JAll.nil
          refine JO.val rfl rfl rfl (.none rfl) (Ev.loadB rfl (by repeat (first | exact List.Mem.head _ | refine List.Mem.tail _ ?_ | refine List.mem_append_right _ ?_ | assumption)) Tryd.underlying22 rfl Tryd.sizeOf22 (by first | rfl | exact dig_size _ | (rw [arr8_size]; first | exact sha_length _ | exact shaO_length _ | assumption))) ?_
          refine JA.branch [0] (by kernel_rfl) rfl ?_
          refine JAll.cons rfl ?_ JAll.nil
          refine JO.val rfl rfl rfl (.none rfl) (Ev.loadB rfl (by repeat (first | exact List.Mem.head _ | refine List.Mem.tail _ ?_ | refine List.mem_append_right _ ?_ | assumption)) Tryd.underlying22 rfl Tryd.sizeOf22 (by first | rfl | exact dig_size _ | (rw [arr8_size]; first | exact sha_length _ | exact shaO_length _ | assumption))) ?_
          refine JA.takeR 2 (by kernel_rfl) rfl rfl rfl (by kernel_rfl) (by kernel_rfl) (by kernel_rfl) (fun _ _ _ h => h) (fun _ _ => rfl) (.none rfl) (fun _ => (Ev.bin rfl rfl (eql_arr8 (n := 32) Tryd.underlying22 Tryd.underlying5 (by kernel_rfl) (by kernel_rfl) (by first | rfl | exact dig_len _ | assumption | exact sha_length _ | exact shaO_length _) (by first | rfl | exact dig_len _ | assumption | exact sha_length _ | exact shaO_length _)))) ?_
          refine JA.takeR 3 (by kernel_rfl) rfl rfl rfl (by kernel_rfl) (by kernel_rfl) (by kernel_rfl) (fun _ _ _ h => h) (fun _ _ => rfl) (.none rfl) (fun _ => (Ev.move rfl)) ?_
          refine JA.know (d := 65) (b := true) rfl ?_ ?_
          · exact decide_eq_true (congrArg Subtype.val hac)
          refine JA.takeR 4 (by kernel_rfl) rfl rfl rfl (by kernel_rfl) (by kernel_rfl) (by kernel_rfl) (fun _ _ _ h => h) (fun _ _ => rfl) (.yes rfl rfl rfl) (fun _ => (Ev.move rfl)) ?_
          refine JA.takeR 5 (by kernel_rfl) rfl rfl rfl (by kernel_rfl) (by kernel_rfl) (by kernel_rfl) (fun _ _ _ h => h) (fun _ _ => rfl) (.yes rfl rfl rfl) (fun _ => (Ev.move rfl)) ?_
          refine JA.takeR 6 (by kernel_rfl) rfl rfl rfl (by kernel_rfl) (by kernel_rfl) (by kernel_rfl) (fun _ _ _ h => h) (fun _ _ => rfl) (.yes rfl rfl rfl) (fun _ => (Ev.cast (v' := .slice oa (l.take (bel l.length)).length ca) (by rw [sub3_0, htl]) (Ev.sliceHi rfl rfl Tryd.underlying23 Tryd.sizeOf22 (h := bel l.length) rfl (by have := hl.le; omega)))) ?_
          refine JA.takeR 7 (by kernel_rfl) rfl rfl rfl (by kernel_rfl) (by kernel_rfl) (by kernel_rfl) (fun _ _ _ h => h) (fun _ _ => rfl) (.yes rfl rfl rfl) (fun _ => (Ev.move rfl)) ?_
          refine JA.takeR 8 (by kernel_rfl) rfl rfl rfl (by kernel_rfl) (by kernel_rfl) (by kernel_rfl) (fun _ _ _ h => h) (fun _ _ => rfl) (.yes rfl rfl rfl) (fun _ => (Ev.move rfl)) ?_
          refine JA.takeR 9 (by kernel_rfl) rfl rfl rfl (by kernel_rfl) (by kernel_rfl) (by kernel_rfl) (fun _ _ _ h => h) (fun _ _ => rfl) (.yes rfl rfl rfl) (fun _ => (Ev.cast (v' := .slice ob (m.take (bel l.length)).length cb) (by rw [sub3_0, htm]) (Ev.sliceHi rfl rfl Tryd.underlying23 Tryd.sizeOf22 (h := bel l.length) rfl (by have := hm.le; omega)))) ?_
          refine JA.branch [10] (by kernel_rfl) rfl ?_
          refine JAll.cons rfl ?_ JAll.nil
          refine JO.callV rfl (.yes rfl rfl rfl) rfl Tryd.call24 (fun w1 hw1 => ih oa ob ca cb (l.take (bel l.length)) (m.take (bel l.length)) w1 (Dl.take (hl.old hw1) (by omega)) (Dl.take (hm.old hw1) (by omega)) (by omega) hrT (by omega) (hk.old hw1) (hf.old hw1) (by omega)) ?_
          refine JA.takeR 11 (by kernel_rfl) rfl rfl rfl (by kernel_rfl) (by kernel_rfl) (by kernel_rfl) (fun _ _ _ h => h) (fun _ _ => rfl) (.none rfl) (fun _ => (Ev.pickT rfl rfl)) ?_
          refine JA.takeR 12 (by kernel_rfl) rfl rfl rfl (by kernel_rfl) (by kernel_rfl) (by kernel_rfl) (fun _ _ _ h => h) (fun _ _ => rfl) (.none rfl) (fun _ => (Ev.move rfl)) ?_
          refine JA.split (d := 74) rfl (fun hgT => ?_) (fun hgT => ?_)
          · -- guard 74 true
            refine JA.branch [13, 14] (by kernel_rfl) rfl ?_
            refine JAll.cons rfl ?_ ?_
            · -- 13
              refine JO.skip rfl rfl (.noF rfl rfl rfl) ?_
              refine JA.branch [14] (by kernel_rfl) rfl ?_
              refine JAll.cons rfl ?_ JAll.nil
              refine JO.skip rfl rfl (.noF rfl rfl rfl) ?_
              refine JA.skipR 15 (by kernel_rfl) rfl rfl rfl (by kernel_rfl) (by kernel_rfl) (by kernel_rfl) (fun _ _ _ h => h) (fun _ _ => rfl) (.noF rfl rfl rfl) ?_
              refine JA.skipR 16 (by kernel_rfl) rfl rfl rfl (by kernel_rfl) (by kernel_rfl) (by kernel_rfl) (fun _ _ _ h => h) (fun _ _ => rfl) (.noF rfl rfl rfl) ?_
              refine JA.skipW 17 (by kernel_rfl) rfl rfl rfl (by kernel_rfl) (by kernel_rfl) (by kernel_rfl) (fun _ _ _ h => h) (fun _ _ => rfl) (wantU rfl rfl rfl) ?_
              refine JA.skipW 18 (by kernel_rfl) rfl rfl rfl (by kernel_rfl) (by kernel_rfl) (by kernel_rfl) (fun _ _ _ h => h) (fun _ _ => rfl) (wantU rfl rfl rfl) ?_
              refine JA.skipW 19 (by kernel_rfl) rfl rfl rfl (by kernel_rfl) (by kernel_rfl) (by kernel_rfl) (fun _ _ _ h => h) (fun _ _ => rfl) (wantU rfl rfl rfl) ?_
              refine JA.skipW 20 (by kernel_rfl) rfl rfl rfl (by kernel_rfl) (by kernel_rfl) (by kernel_rfl) (fun _ _ _ h => h) (fun _ _ => rfl) (wantU rfl rfl rfl) ?_
              refine JA.skipW 21 (by kernel_rfl) rfl rfl rfl (by kernel_rfl) (by kernel_rfl) (by kernel_rfl) (fun _ _ _ h => h) (fun _ _ => rfl) (wantU rfl rfl rfl) ?_
              refine JA.skipW 22 (by kernel_rfl) rfl rfl rfl (by kernel_rfl) (by kernel_rfl) (by kernel_rfl) (fun _ _ _ h => h) (fun _ _ => rfl) (wantU rfl rfl rfl) ?_
              refine JA.branch [23] (by kernel_rfl) rfl ?_
              refine JAll.cons rfl ?_ JAll.nil
              refine JO.skipW rfl rfl (wantU rfl rfl rfl) ?_
              refine JA.skipR 24 (by kernel_rfl) rfl rfl rfl (by kernel_rfl) (by kernel_rfl) (by kernel_rfl) (fun _ _ _ h => h) (fun _ _ => rfl) (.noF rfl rfl rfl) ?_
              refine JA.takeR 25 (by kernel_rfl) rfl rfl rfl (by kernel_rfl) (by kernel_rfl) (by kernel_rfl) (fun _ _ _ h => h) (fun _ _ => rfl) (.none rfl) (fun _ => (Ev.pickT rfl rfl)) ?_
              refine JA.takeR 26 (by kernel_rfl) rfl rfl rfl (by kernel_rfl) (by kernel_rfl) (by kernel_rfl) (fun _ _ _ h => h) (fun _ _ => rfl) (.none rfl) (fun _ => (Ev.assign rfl)) ?_
              refine JA.done (by kernel_rfl) ?_
              refine JQ.thenN ?_
              refine JC.ret ?_
              refine JQ.end1 (H' := []) (.inl rfl) rfl (.tmp rfl) ?_ ?_
              · first | exact Sub.all | exact Sub.of_cnt (fun a => by (try dsimp only); simp only [cntA]; omega) | repeat (first | exact Sub.nil | refine Sub.cons (by first | exact .here | exact .there .here | exact .there (.there .here) | exact .there (.there (.there .here)) | exact .there (.there (.there (.there .here)))) ?_ | exact Sub.all)
              · first | exact congrArg Value.bool (by rw [decide_eq_true (small_eq hlm hrt hsmall)]; rfl) | exact congrArg Value.bool (by rw [decide_eq_true hcS]; rfl) | exact congrArg Value.bool (by rw [decide_eq_false hcS]; rfl) | exact congrArg Value.bool (by rw [decide_eq_false hcS, decide_eq_false (fun h => hcS (by rw [← List.take_append_drop (bel l.length) l, ← List.take_append_drop (bel l.length) m, htk, h]))])
            refine JAll.cons rfl ?_ JAll.nil
            refine JO.skip rfl rfl (.noF rfl rfl rfl) ?_
            refine JA.branch [13] (by kernel_rfl) rfl ?_
            refine JAll.cons rfl ?_ JAll.nil
            refine JO.skip rfl rfl (.noF rfl rfl rfl) ?_
            refine JA.skipR 15 (by kernel_rfl) rfl rfl rfl (by kernel_rfl) (by kernel_rfl) (by kernel_rfl) (fun _ _ _ h => h) (fun _ _ => rfl) (.noF rfl rfl rfl) ?_
            refine JA.skipR 16 (by kernel_rfl) rfl rfl rfl (by kernel_rfl) (by kernel_rfl) (by kernel_rfl) (fun _ _ _ h => h) (fun _ _ => rfl) (.noF rfl rfl rfl) ?_
            refine JA.skipW 17 (by kernel_rfl) rfl rfl rfl (by kernel_rfl) (by kernel_rfl) (by kernel_rfl) (fun _ _ _ h => h) (fun _ _ => rfl) (wantU rfl rfl rfl) ?_
            refine JA.skipW 18 (by kernel_rfl) rfl rfl rfl (by kernel_rfl) (by kernel_rfl) (by kernel_rfl) (fun _ _ _ h => h) (fun _ _ => rfl) (wantU rfl rfl rfl) ?_
            refine JA.skipW 19 (by kernel_rfl) rfl rfl rfl (by kernel_rfl) (by kernel_rfl) (by kernel_rfl) (fun _ _ _ h => h) (fun _ _ => rfl) (wantU rfl rfl rfl) ?_
            refine JA.skipW 20 (by kernel_rfl) rfl rfl rfl (by kernel_rfl) (by kernel_rfl) (by kernel_rfl) (fun _ _ _ h => h) (fun _ _ => rfl) (wantU rfl rfl rfl) ?_
            refine JA.skipW 21 (by kernel_rfl) rfl rfl rfl (by kernel_rfl) (by kernel_rfl) (by kernel_rfl) (fun _ _ _ h => h) (fun _ _ => rfl) (wantU rfl rfl rfl) ?_
            refine JA.skipW 22 (by kernel_rfl) rfl rfl rfl (by kernel_rfl) (by kernel_rfl) (by kernel_rfl) (fun _ _ _ h => h) (fun _ _ => rfl) (wantU rfl rfl rfl) ?_
            refine JA.branch [23] (by kernel_rfl) rfl ?_
            refine JAll.cons rfl ?_ JAll.nil
            refine JO.skipW rfl rfl (wantU rfl rfl rfl) ?_
            refine JA.skipR 24 (by kernel_rfl) rfl rfl rfl (by kernel_rfl) (by kernel_rfl) (by kernel_rfl) (fun _ _ _ h => h) (fun _ _ => rfl) (.noF rfl rfl rfl) ?_
            refine JA.takeR 25 (by kernel_rfl) rfl rfl rfl (by kernel_rfl) (by kernel_rfl) (by kernel_rfl) (fun _ _ _ h => h) (fun _ _ => rfl) (.none rfl) (fun _ => (Ev.pickT rfl rfl)) ?_
            refine JA.takeR 26 (by kernel_rfl) rfl rfl rfl (by kernel_rfl) (by kernel_rfl) (by kernel_rfl) (fun _ _ _ h => h) (fun _ _ => rfl) (.none rfl) (fun _ => (Ev.assign rfl)) ?_
            refine JA.done (by kernel_rfl) ?_
            refine JQ.thenN ?_
            refine JC.ret ?_
            refine JQ.end1 (H' := []) (.inl rfl) rfl (.tmp rfl) ?_ ?_
            · first | exact Sub.all | exact Sub.of_cnt (fun a => by (try dsimp only); simp only [cntA]; omega) | repeat (first | exact Sub.nil | refine Sub.cons (by first | exact .here | exact .there .here | exact .there (.there .here) | exact .there (.there (.there .here)) | exact .there (.there (.there (.there .here)))) ?_ | exact Sub.all)
            · first | exact congrArg Value.bool (by rw [decide_eq_true (small_eq hlm hrt hsmall)]; rfl) | exact congrArg Value.bool (by rw [decide_eq_true hcS]; rfl) | exact congrArg Value.bool (by rw [decide_eq_false hcS]; rfl) | exact congrArg Value.bool (by rw [decide_eq_false hcS, decide_eq_false (fun h => hcS (by rw [← List.take_append_drop (bel l.length) l, ← List.take_append_drop (bel l.length) m, htk, h]))])
          · -- guard 74 false
            have htk : (l.take (bel l.length)) = (m.take (bel l.length)) := by simpa using hgT
            refine JA.branch [13, 14] (by kernel_rfl) rfl ?_
            refine JAll.cons rfl ?_ ?_
            · -- 13
              refine JO.val rfl rfl rfl (.yes rfl rfl rfl) (Ev.loadB rfl (by repeat (first | exact List.Mem.head _ | refine List.Mem.tail _ ?_ | refine List.mem_append_right _ ?_ | assumption)) Tryd.underlying22 rfl Tryd.sizeOf22 (by first | rfl | exact dig_size _ | (rw [arr8_size]; first | exact sha_length _ | exact shaO_length _ | assumption))) ?_
              refine JA.branch [14] (by kernel_rfl) rfl ?_
              refine JAll.cons rfl ?_ JAll.nil
              refine JO.val rfl rfl rfl (.yes rfl rfl rfl) (Ev.loadB rfl (by repeat (first | exact List.Mem.head _ | refine List.Mem.tail _ ?_ | refine List.mem_append_right _ ?_ | assumption)) Tryd.underlying22 rfl Tryd.sizeOf22 (by first | rfl | exact dig_size _ | (rw [arr8_size]; first | exact sha_length _ | exact shaO_length _ | assumption))) ?_
              refine JA.takeR 15 (by kernel_rfl) rfl rfl rfl (by kernel_rfl) (by kernel_rfl) (by kernel_rfl) (fun _ _ _ h => h) (fun _ _ => rfl) (.yes rfl rfl rfl) (fun _ => (Ev.bin rfl rfl (eql_arr8 (n := 32) Tryd.underlying22 Tryd.underlying5 (by kernel_rfl) (by kernel_rfl) (by first | rfl | exact dig_len _ | assumption | exact sha_length _ | exact shaO_length _) (by first | rfl | exact dig_len _ | assumption | exact sha_length _ | exact shaO_length _)))) ?_
              refine JA.takeR 16 (by kernel_rfl) rfl rfl rfl (by kernel_rfl) (by kernel_rfl) (by kernel_rfl) (fun _ _ _ h => h) (fun _ _ => rfl) (.yes rfl rfl rfl) (fun _ => (Ev.move rfl)) ?_
              refine JA.know (d := 78) (b := true) rfl ?_ ?_
              · exact decide_eq_true (congrArg Subtype.val hbd)
              refine JA.takeR 17 (by kernel_rfl) rfl rfl rfl (by kernel_rfl) (by kernel_rfl) (by kernel_rfl) (fun _ _ _ h => h) (fun _ _ => rfl) (.yes rfl rfl rfl) (fun _ => (Ev.move rfl)) ?_
              refine JA.takeR 18 (by kernel_rfl) rfl rfl rfl (by kernel_rfl) (by kernel_rfl) (by kernel_rfl) (fun _ _ _ h => h) (fun _ _ => rfl) (.yes rfl rfl rfl) (fun _ => (Ev.move rfl)) ?_
              refine JA.takeR 19 (by kernel_rfl) rfl rfl rfl (by kernel_rfl) (by kernel_rfl) (by kernel_rfl) (fun _ _ _ h => h) (fun _ _ => rfl) (.yes rfl rfl rfl) (fun _ => (Ev.cast (v' := .slice ol (l.drop (bel l.length)).length (ca - bel l.length)) (eol) (Ev.sliceLo rfl rfl Tryd.underlying23 Tryd.sizeOf22 (l := bel l.length) rfl (by omega)))) ?_
              refine JA.takeR 20 (by kernel_rfl) rfl rfl rfl (by kernel_rfl) (by kernel_rfl) (by kernel_rfl) (fun _ _ _ h => h) (fun _ _ => rfl) (.yes rfl rfl rfl) (fun _ => (Ev.move rfl)) ?_
              refine JA.takeR 21 (by kernel_rfl) rfl rfl rfl (by kernel_rfl) (by kernel_rfl) (by kernel_rfl) (fun _ _ _ h => h) (fun _ _ => rfl) (.yes rfl rfl rfl) (fun _ => (Ev.move rfl)) ?_
              refine JA.takeR 22 (by kernel_rfl) rfl rfl rfl (by kernel_rfl) (by kernel_rfl) (by kernel_rfl) (fun _ _ _ h => h) (fun _ _ => rfl) (.yes rfl rfl rfl) (fun _ => (Ev.cast (v' := .slice om (m.drop (bel l.length)).length (cb - bel l.length)) (eom) (Ev.sliceLo rfl rfl Tryd.underlying23 Tryd.sizeOf22 (l := bel l.length) rfl (by omega)))) ?_
              refine JA.branch [23] (by kernel_rfl) rfl ?_
              refine JAll.cons rfl ?_ JAll.nil
              refine JO.callV rfl (.yes rfl rfl rfl) rfl Tryd.call24 (fun w1 hw1 => ih ol om (ca - bel l.length) (cb - bel l.length) (l.drop (bel l.length)) (m.drop (bel l.length)) w1 (hol w1 (hl.old hw1)) (hom w1 (hm.old hw1)) (by omega) hrD (by omega) (hk.old hw1) (hf.old hw1) (by omega)) ?_
              refine JA.takeR 24 (by kernel_rfl) rfl rfl rfl (by kernel_rfl) (by kernel_rfl) (by kernel_rfl) (fun _ _ _ h => h) (fun _ _ => rfl) (.yes rfl rfl rfl) (fun _ => (Ev.pickT rfl rfl)) ?_
              refine JA.takeR 25 (by kernel_rfl) rfl rfl rfl (by kernel_rfl) (by kernel_rfl) (by kernel_rfl) (fun _ _ _ h => h) (fun _ _ => rfl) (.none rfl) (fun _ => (Ev.pickF rfl rfl)) ?_
              refine JA.takeR 26 (by kernel_rfl) rfl rfl rfl (by kernel_rfl) (by kernel_rfl) (by kernel_rfl) (fun _ _ _ h => h) (fun _ _ => rfl) (.none rfl) (fun _ => (Ev.assign rfl)) ?_
              refine JA.done (by kernel_rfl) ?_
              refine JQ.thenN ?_
              refine JC.ret ?_
              refine JQ.end1 (H' := []) (.inl rfl) rfl (.tmp rfl) ?_ ?_
              · first | exact Sub.all | exact Sub.of_cnt (fun a => by (try dsimp only); simp only [cntA]; omega) | repeat (first | exact Sub.nil | refine Sub.cons (by first | exact .here | exact .there .here | exact .there (.there .here) | exact .there (.there (.there .here)) | exact .there (.there (.there (.there .here)))) ?_ | exact Sub.all)
              · first | exact congrArg Value.bool (by rw [decide_eq_true (small_eq hlm hrt hsmall)]; rfl) | exact congrArg Value.bool (by rw [decide_eq_true hcS]; rfl) | exact congrArg Value.bool (by rw [decide_eq_false hcS]; rfl) | exact congrArg Value.bool (by rw [decide_eq_false hcS, decide_eq_false (fun h => hcS (by rw [← List.take_append_drop (bel l.length) l, ← List.take_append_drop (bel l.length) m, htk, h]))])
            refine JAll.cons rfl ?_ JAll.nil
            refine JO.val rfl rfl rfl (.yes rfl rfl rfl) (Ev.loadB rfl (by repeat (first | exact List.Mem.head _ | refine List.Mem.tail _ ?_ | refine List.mem_append_right _ ?_ | assumption)) Tryd.underlying22 rfl Tryd.sizeOf22 (by first | rfl | exact dig_size _ | (rw [arr8_size]; first | exact sha_length _ | exact shaO_length _ | assumption))) ?_
            refine JA.branch [13] (by kernel_rfl) rfl ?_
            refine JAll.cons rfl ?_ JAll.nil
            refine JO.val rfl rfl rfl (.yes rfl rfl rfl) (Ev.loadB rfl (by repeat (first | exact List.Mem.head _ | refine List.Mem.tail _ ?_ | refine List.mem_append_right _ ?_ | assumption)) Tryd.underlying22 rfl Tryd.sizeOf22 (by first | rfl | exact dig_size _ | (rw [arr8_size]; first | exact sha_length _ | exact shaO_length _ | assumption))) ?_
            refine JA.takeR 15 (by kernel_rfl) rfl rfl rfl (by kernel_rfl) (by kernel_rfl) (by kernel_rfl) (fun _ _ _ h => h) (fun _ _ => rfl) (.yes rfl rfl rfl) (fun _ => (Ev.bin rfl rfl (eql_arr8 (n := 32) Tryd.underlying22 Tryd.underlying5 (by kernel_rfl) (by kernel_rfl) (by first | rfl | exact dig_len _ | assumption | exact sha_length _ | exact shaO_length _) (by first | rfl | exact dig_len _ | assumption | exact sha_length _ | exact shaO_length _)))) ?_
            refine JA.takeR 16 (by kernel_rfl) rfl rfl rfl (by kernel_rfl) (by kernel_rfl) (by kernel_rfl) (fun _ _ _ h => h) (fun _ _ => rfl) (.yes rfl rfl rfl) (fun _ => (Ev.move rfl)) ?_
            refine JA.know (d := 78) (b := true) rfl ?_ ?_
            · exact decide_eq_true (congrArg Subtype.val hbd)
            refine JA.takeR 17 (by kernel_rfl) rfl rfl rfl (by kernel_rfl) (by kernel_rfl) (by kernel_rfl) (fun _ _ _ h => h) (fun _ _ => rfl) (.yes rfl rfl rfl) (fun _ => (Ev.move rfl)) ?_
            refine JA.takeR 18 (by kernel_rfl) rfl rfl rfl (by kernel_rfl) (by kernel_rfl) (by kernel_rfl) (fun _ _ _ h => h) (fun _ _ => rfl) (.yes rfl rfl rfl) (fun _ => (Ev.move rfl)) ?_
            refine JA.takeR 19 (by kernel_rfl) rfl rfl rfl (by kernel_rfl) (by kernel_rfl) (by kernel_rfl) (fun _ _ _ h => h) (fun _ _ => rfl) (.yes rfl rfl rfl) (fun _ => (Ev.cast (v' := .slice ol (l.drop (bel l.length)).length (ca - bel l.length)) (eol) (Ev.sliceLo rfl rfl Tryd.underlying23 Tryd.sizeOf22 (l := bel l.length) rfl (by omega)))) ?_
            refine JA.takeR 20 (by kernel_rfl) rfl rfl rfl (by kernel_rfl) (by kernel_rfl) (by kernel_rfl) (fun _ _ _ h => h) (fun _ _ => rfl) (.yes rfl rfl rfl) (fun _ => (Ev.move rfl)) ?_
            refine JA.takeR 21 (by kernel_rfl) rfl rfl rfl (by kernel_rfl) (by kernel_rfl) (by kernel_rfl) (fun _ _ _ h => h) (fun _ _ => rfl) (.yes rfl rfl rfl) (fun _ => (Ev.move rfl)) ?_
            refine JA.takeR 22 (by kernel_rfl) rfl rfl rfl (by kernel_rfl) (by kernel_rfl) (by kernel_rfl) (fun _ _ _ h => h) (fun _ _ => rfl) (.yes rfl rfl rfl) (fun _ => (Ev.cast (v' := .slice om (m.drop (bel l.length)).length (cb - bel l.length)) (eom) (Ev.sliceLo rfl rfl Tryd.underlying23 Tryd.sizeOf22 (l := bel l.length) rfl (by omega)))) ?_
            refine JA.branch [23] (by kernel_rfl) rfl ?_
            refine JAll.cons rfl ?_ JAll.nil
            refine JO.callV rfl (.yes rfl rfl rfl) rfl Tryd.call24 (fun w1 hw1 => ih ol om (ca - bel l.length) (cb - bel l.length) (l.drop (bel l.length)) (m.drop (bel l.length)) w1 (hol w1 (hl.old hw1)) (hom w1 (hm.old hw1)) (by omega) hrD (by omega) (hk.old hw1) (hf.old hw1) (by omega)) ?_
            refine JA.takeR 24 (by kernel_rfl) rfl rfl rfl (by kernel_rfl) (by kernel_rfl) (by kernel_rfl) (fun _ _ _ h => h) (fun _ _ => rfl) (.yes rfl rfl rfl) (fun _ => (Ev.pickT rfl rfl)) ?_
            refine JA.takeR 25 (by kernel_rfl) rfl rfl rfl (by kernel_rfl) (by kernel_rfl) (by kernel_rfl) (fun _ _ _ h => h) (fun _ _ => rfl) (.none rfl) (fun _ => (Ev.pickF rfl rfl)) ?_
            refine JA.takeR 26 (by kernel_rfl) rfl rfl rfl (by kernel_rfl) (by kernel_rfl) (by kernel_rfl) (fun _ _ _ h => h) (fun _ _ => rfl) (.none rfl) (fun _ => (Ev.assign rfl)) ?_
            refine JA.done (by kernel_rfl) ?_
            refine JQ.thenN ?_
            refine JC.ret ?_
            refine JQ.end1 (H' := []) (.inl rfl) rfl (.tmp rfl) ?_ ?_
            · first | exact Sub.all | exact Sub.of_cnt (fun a => by (try dsimp only); simp only [cntA]; omega) | repeat (first | exact Sub.nil | refine Sub.cons (by first | exact .here | exact .there .here | exact .there (.there .here) | exact .there (.there (.there .here)) | exact .there (.there (.there (.there .here)))) ?_ | exact Sub.all)
            · first | exact congrArg Value.bool (by rw [decide_eq_true (small_eq hlm hrt hsmall)]; rfl) | exact congrArg Value.bool (by rw [decide_eq_true hcS]; rfl) | exact congrArg Value.bool (by rw [decide_eq_false hcS]; rfl) | exact congrArg Value.bool (by rw [decide_eq_false hcS, decide_eq_false (fun h => hcS (by rw [← List.take_append_drop (bel l.length) l, ← List.take_append_drop (bel l.length) m, htk, h]))])
theorem found_any (oa : Option Addr) (ob : Option Addr) (ca : Nat) (cb : Nat) (l : List Dig) (m : List Dig) (w : World) (hl : Dl w oa ca l) (hm : Dl w ob cb m) (hlm : l.length = m.length) (hrt : rootR l = rootR m) (hmx : l.length ≤ 1024) (hk : KMem 1 w) (hf : FMem 0 w) :
    Calls Tryd.prog 24 #[.slice oa l.length ca, .slice ob m.length cb] w (Ret w (fun v _ => v = .bool (!decide (l = m)))) := by
  have key : ∀ (N : Nat) (oa : Option Addr) (ob : Option Addr) (ca : Nat) (cb : Nat) (l : List Dig) (m : List Dig) (w : World) (hl : Dl w oa ca l) (hm : Dl w ob cb m) (hlm : l.length = m.length) (hrt : rootR l = rootR m) (hmx : l.length ≤ 1024) (hk : KMem 1 w) (hf : FMem 0 w), l.length = N → Calls Tryd.prog 24 #[.slice oa l.length ca, .slice ob m.length cb] w (Ret w (fun v _ => v = .bool (!decide (l = m)))) := by
    intro N
    induction N using Nat.strongRecOn with
    | _ N IH =>
      intro oa ob ca cb l m w hl hm hlm hrt hmx hk hf hN
      exact found_any_step N (fun oa ob ca cb l m w hl hm hlm hrt hmx hk hf hlt => IH _ hlt oa ob ca cb l m w hl hm hlm hrt hmx hk hf rfl) oa ob ca cb l m w hl hm hlm hrt hmx hk hf hN
  exact key _ oa ob ca cb l m w hl hm hlm hrt hmx hk hf rfl

theorem lawLists_any (oa ob : Option Addr) (ca cb : Nat) (l m : List Dig) (w : World) (hl : Dl w oa ca l) (hm : Dl w ob cb m) (hk : KMem 1 w) (hf : FMem 0 w) :
    Calls Tryd.prog 6 #[.slice oa l.length ca, .slice ob m.length cb] w (Ret w (fun v _ => v = .bool true)) := by
  refine enter (vs := [.slice oa l.length ca, .slice ob m.length cb]) Tryd.func6 rfl Tryd.ntmps6 rfl ?_
  refine JC.seq ?_
  -- region 0
  refine JC.region ?_
  refine JL.val rfl rfl rfl (.none rfl) (Ev.assign rfl) ?_
  refine JL.nil ?_
  refine JQ.thenN ?_
  refine JC.seq ?_
  -- region 1
  refine JC.region ?_
  refine JL.callV rfl (.none rfl) rfl Tryd.call22 (fun w1 hw1 => alive_any w1 (hk.old hw1) (hf.old hw1)) ?_
  refine JL.val rfl rfl rfl (.none rfl) (Ev.assign rfl) ?_
  refine JL.nil ?_
  refine JQ.thenN ?_
  refine JC.seq ?_
  refine JC.seq ?_
  -- region 2
  refine JC.region ?_
  refine JL.val rfl rfl rfl (.none rfl) (Ev.move rfl) ?_
  refine JL.callV rfl (.none rfl) rfl Tryd.call11 (fun w1 hw1 => great_any oa l.length ca w1) ?_
  refine JL.val rfl rfl rfl (.none rfl) (Ev.move rfl) ?_
  refine JL.split (d := 13) rfl (fun hgA => ?_) (fun hgA => ?_)
  · -- guard 13 true
    refine JL.skip rfl rfl (.noF rfl rfl rfl) ?_
    refine JL.skip rfl rfl (.noF rfl rfl rfl) ?_
    refine JL.skip rfl rfl (.noF rfl rfl rfl) ?_
    refine JL.skip rfl rfl (.noF rfl rfl rfl) ?_
    refine JL.skip rfl rfl (.noF rfl rfl rfl) ?_
    refine JL.val rfl rfl rfl (.none rfl) (Ev.pickT rfl rfl) ?_
    refine JL.val rfl rfl rfl (.none rfl) (Ev.move rfl) ?_
    refine JL.skip rfl rfl (.noF rfl rfl rfl) ?_
    refine JL.skip rfl rfl (.noF rfl rfl rfl) ?_
    refine JL.val rfl rfl rfl (.none rfl) (Ev.pickT rfl rfl) ?_
    refine JL.nil ?_
    refine JQ.thenN ?_
    refine JC.condT rfl ?_
    refine JC.seq ?_
    -- region 3
    refine JC.region ?_
    refine JL.val rfl rfl rfl (.none rfl) (Ev.move rfl) ?_
    refine JL.val rfl rfl rfl (.none rfl) (Ev.assign rfl) ?_
    refine JL.nil ?_
    refine JQ.thenN ?_
    refine JC.ret ?_
    refine JQ.thenR ?_
    refine JQ.end1 (H' := []) (.inl rfl) rfl (.tmp rfl) ?_ ?_
    · first | exact Sub.all | exact Sub.of_cnt (fun a => by (try dsimp only); simp only [cntA]; omega) | repeat (first | exact Sub.nil | refine Sub.cons (by first | exact .here | exact .there .here | exact .there (.there .here) | exact .there (.there (.there .here)) | exact .there (.there (.there (.there .here)))) ?_ | exact Sub.all)
    · first | rfl | exact congrArg Value.bool (by rw [decide_eq_false (fun h => hrt (by rw [h]))]; rfl) | exact congrArg Value.bool (by rw [hgS]; rfl)
  · -- guard 13 false
    have hg130 : ¬ 130 < (l.length : Int) := of_decide_eq_false hgA
    refine JL.val rfl rfl rfl (.yes rfl rfl rfl) (Ev.move rfl) ?_
    refine JL.val rfl rfl rfl (.yes rfl rfl rfl) (Ev.lenS rfl Tryd.underlying23) ?_
    refine JL.val rfl rfl rfl (.yes rfl rfl rfl) (Ev.move rfl) ?_
    refine JL.val rfl rfl rfl (.yes rfl rfl rfl) (Ev.lenS rfl Tryd.underlying23) ?_
    refine JL.val rfl rfl rfl (.yes rfl rfl rfl) (Ev.bin rfl rfl neq_int) ?_
    refine JL.val rfl rfl rfl (.none rfl) (Ev.pickF rfl rfl) ?_
    refine JL.val rfl rfl rfl (.none rfl) (Ev.move rfl) ?_
    refine JL.split (d := 20) rfl (fun hgB => ?_) (fun hgB => ?_)
    · -- guard 20 true
      refine JL.skip rfl rfl (.noF rfl rfl rfl) ?_
      refine JL.skip rfl rfl (.noF rfl rfl rfl) ?_
      refine JL.val rfl rfl rfl (.none rfl) (Ev.pickT rfl rfl) ?_
      refine JL.nil ?_
      refine JQ.thenN ?_
      refine JC.condT rfl ?_
      refine JC.seq ?_
      -- region 3
      refine JC.region ?_
      refine JL.val rfl rfl rfl (.none rfl) (Ev.move rfl) ?_
      refine JL.val rfl rfl rfl (.none rfl) (Ev.assign rfl) ?_
      refine JL.nil ?_
      refine JQ.thenN ?_
      refine JC.ret ?_
      refine JQ.thenR ?_
      refine JQ.end1 (H' := []) (.inl rfl) rfl (.tmp rfl) ?_ ?_
      · first | exact Sub.all | exact Sub.of_cnt (fun a => by (try dsimp only); simp only [cntA]; omega) | repeat (first | exact Sub.nil | refine Sub.cons (by first | exact .here | exact .there .here | exact .there (.there .here) | exact .there (.there (.there .here)) | exact .there (.there (.there (.there .here)))) ?_ | exact Sub.all)
      · first | rfl | exact congrArg Value.bool (by rw [decide_eq_false (fun h => hrt (by rw [h]))]; rfl) | exact congrArg Value.bool (by rw [hgS]; rfl)
    · -- guard 20 false
      have hlm : l.length = m.length := by have := of_decide_eq_false hgB; omega
      have hsm : ¬ 1024 < l.length := by omega
      have hsm2 : ¬ 1024 < m.length := by omega
      refine JL.val rfl rfl rfl (.yes rfl rfl rfl) (Ev.move rfl) ?_
      refine JL.val rfl rfl rfl (.yes rfl rfl rfl) (Ev.not rfl) ?_
      refine JL.val rfl rfl rfl (.none rfl) (Ev.pickF rfl rfl) ?_
      refine JL.nil ?_
      refine JQ.thenN ?_
      refine JC.knowF rfl ?_ ?_
      · rfl
      refine JC.skip ?_
      refine JQ.thenN ?_
      refine JC.seq ?_
      -- region 4
      refine JC.region ?_
      refine JL.val rfl rfl rfl (.none rfl) (Ev.move rfl) ?_
      refine JL.callV rfl (.none rfl) rfl Tryd.call17 (fun w1 hw1 => Root_any oa ca l w1 (hl.old hw1) (by omega) (hk.old hw1) (hf.old hw1)) ?_
      refine JL.val rfl rfl rfl (.none rfl) (Ev.move rfl) ?_
      refine JL.val rfl rfl rfl (.none rfl) (Ev.ex0 rfl) ?_
      refine JL.val rfl rfl rfl (.none rfl) (Ev.ex1 rfl) ?_
      refine JL.new rfl rfl rfl (.none rfl) (En.allocZ (cs := arr8 (List.replicate 32 0)) Tryd.zeroValue22 rfl) (fun b6 hb6 => ?_)
      refine JL.sto rfl rfl (.none rfl) (Es.storeA rfl rfl Tryd.sizeOf22 (by repeat (first | exact .here | apply Upd.there | apply Upd.left)) (by first | rfl | exact dig_size _ | (rw [arr8_size]; first | exact sha_length _ | exact shaO_length _ | assumption)) (by first | rfl | exact dig_size _ | (rw [arr8_size]; first | exact sha_length _ | exact shaO_length _ | assumption)) (by first | exact arr8_one _ | exact fun u hu => arr8_one (List.replicate 32 0) u hu | (simp; done) | (simp; exact ⟨rfl, rfl⟩))) ?_
      refine JL.val rfl rfl rfl (.none rfl) (Ev.assign rfl) ?_
      refine JL.nil ?_
      refine JQ.thenN ?_
      refine JC.seq ?_
      -- region 5
      refine JC.region ?_
      refine JL.val rfl rfl rfl (.none rfl) (Ev.move rfl) ?_
      refine JL.callV rfl (.none rfl) rfl Tryd.call17 (fun w1 hw1 => Root_any ob cb m w1 (hm.old hw1) (by omega) (hk.old hw1) (hf.old hw1)) ?_
      refine JL.val rfl rfl rfl (.none rfl) (Ev.move rfl) ?_
      refine JL.val rfl rfl rfl (.none rfl) (Ev.ex0 rfl) ?_
      refine JL.val rfl rfl rfl (.none rfl) (Ev.ex1 rfl) ?_
      refine JL.new rfl rfl rfl (.none rfl) (En.allocZ (cs := arr8 (List.replicate 32 0)) Tryd.zeroValue22 rfl) (fun b8 hb8 => ?_)
      refine JL.sto rfl rfl (.none rfl) (Es.storeA rfl rfl Tryd.sizeOf22 (by repeat (first | exact .here | apply Upd.there | apply Upd.left)) (by first | rfl | exact dig_size _ | (rw [arr8_size]; first | exact sha_length _ | exact shaO_length _ | assumption)) (by first | rfl | exact dig_size _ | (rw [arr8_size]; first | exact sha_length _ | exact shaO_length _ | assumption)) (by first | exact arr8_one _ | exact fun u hu => arr8_one (List.replicate 32 0) u hu | (simp; done) | (simp; exact ⟨rfl, rfl⟩))) ?_
      refine JL.val rfl rfl rfl (.none rfl) (Ev.assign rfl) ?_
      refine JL.nil ?_
      refine JQ.thenN ?_
      refine JC.seq ?_
      refine JC.seq ?_
      -- region 6
      refine JC.region ?_
      refine JL.re (d := 7) (v' := .int .i64 0) rfl (congrArg (Value.int .i64) (rootE_ok hsm)) ?_
      refine JL.re (d := 9) (v' := .int .i64 0) rfl (congrArg (Value.int .i64) (rootE_ok hsm2)) ?_
      refine JL.val rfl rfl rfl (.none rfl) (Ev.move rfl) ?_
      refine JL.val rfl rfl rfl (.none rfl) (Ev.bin rfl rfl neq_int) ?_
      refine JL.val rfl rfl rfl (.none rfl) (Ev.move rfl) ?_
      refine JL.know (d := 37) (b := false) rfl ?_ ?_
      · rfl
      refine JL.val rfl rfl rfl (.yes rfl rfl rfl) (Ev.move rfl) ?_
      refine JL.val rfl rfl rfl (.yes rfl rfl rfl) (Ev.bin rfl rfl neq_int) ?_
      refine JL.val rfl rfl rfl (.none rfl) (Ev.pickF rfl rfl) ?_
      refine JL.nil ?_
      refine JQ.thenN ?_
      refine JC.knowF rfl ?_ ?_
      · rfl
      refine JC.skip ?_
      refine JQ.thenN ?_
      refine JC.seq ?_
      refine JC.seq ?_
      -- region 8
      refine JC.region ?_
      refine JL.val rfl rfl rfl (.none rfl) (Ev.loadB rfl (by repeat (first | exact List.Mem.head _ | refine List.Mem.tail _ ?_ | refine List.mem_append_right _ ?_ | assumption)) Tryd.underlying22 rfl Tryd.sizeOf22 (by first | rfl | exact dig_size _ | (rw [arr8_size]; first | exact sha_length _ | exact shaO_length _ | assumption))) ?_
      refine JL.val rfl rfl rfl (.none rfl) (Ev.loadB rfl (by repeat (first | exact List.Mem.head _ | refine List.Mem.tail _ ?_ | refine List.mem_append_right _ ?_ | assumption)) Tryd.underlying22 rfl Tryd.sizeOf22 (by first | rfl | exact dig_size _ | (rw [arr8_size]; first | exact sha_length _ | exact shaO_length _ | assumption))) ?_
      refine JL.val rfl rfl rfl (.none rfl) (Ev.bin rfl rfl (neq_arr8 (n := 32) Tryd.underlying22 Tryd.underlying5 (by kernel_rfl) (by kernel_rfl) (by first | rfl | exact dig_len _ | assumption | exact sha_length _ | exact shaO_length _) (by first | rfl | exact dig_len _ | assumption | exact sha_length _ | exact shaO_length _))) ?_
      refine JL.nil ?_
      refine JQ.thenN ?_
      refine JC.cond rfl (fun hcr => ?_) (fun hcr => ?_)
      · -- t43 True
        have hrt : rootV l ≠ rootV m := fun h => by simp [h] at hcr
        refine JC.seq ?_
        -- region 9
        refine JC.region ?_
        refine JL.val rfl rfl rfl (.none rfl) (Ev.move rfl) ?_
        refine JL.val rfl rfl rfl (.none rfl) (Ev.move rfl) ?_
        refine JL.know (d := 45) (b := true) rfl ?_ ?_
        · rfl
        refine JL.val rfl rfl rfl (.yes rfl rfl rfl) (Ev.move rfl) ?_
        refine JL.val rfl rfl rfl (.yes rfl rfl rfl) (Ev.move rfl) ?_
        refine JL.callV rfl (.yes rfl rfl rfl) rfl Tryd.call21 (fun w1 hw1 => dSame_any oa ob ca cb l m w1 (hl.old hw1) (hm.old hw1) (by omega)) ?_
        refine JL.val rfl rfl rfl (.yes rfl rfl rfl) (Ev.not rfl) ?_
        refine JL.val rfl rfl rfl (.none rfl) (Ev.pickT rfl rfl) ?_
        refine JL.val rfl rfl rfl (.none rfl) (Ev.assign rfl) ?_
        refine JL.nil ?_
        refine JQ.thenN ?_
        refine JC.ret ?_
        refine JQ.thenR ?_
        refine JQ.end1 (H' := []) (.inl rfl) rfl (.tmp rfl) ?_ ?_
        · first | exact Sub.all | exact Sub.of_cnt (fun a => by (try dsimp only); simp only [cntA]; omega) | repeat (first | exact Sub.nil | refine Sub.cons (by first | exact .here | exact .there .here | exact .there (.there .here) | exact .there (.there (.there .here)) | exact .there (.there (.there (.there .here)))) ?_ | exact Sub.all)
        · first | rfl | exact congrArg Value.bool (by rw [decide_eq_false (fun h => hrt (by rw [h]))]; rfl) | exact congrArg Value.bool (by rw [hgS]; rfl)
      · -- t43 False
        have hrt : rootV l = rootV m := Subtype.ext (by simpa using hcr)
        refine JC.skip ?_
        refine JQ.thenN ?_
        refine JC.seq ?_
        -- region 10
        refine JC.region ?_
        refine JL.val rfl rfl rfl (.none rfl) (Ev.move rfl) ?_
        refine JL.val rfl rfl rfl (.none rfl) (Ev.move rfl) ?_
        refine JL.know (d := 52) (b := true) rfl ?_ ?_
        · rfl
        refine JL.val rfl rfl rfl (.yes rfl rfl rfl) (Ev.move rfl) ?_
        refine JL.val rfl rfl rfl (.yes rfl rfl rfl) (Ev.move rfl) ?_
        refine JL.callV rfl (.yes rfl rfl rfl) rfl Tryd.call21 (fun w1 hw1 => dSame_any oa ob ca cb l m w1 (hl.old hw1) (hm.old hw1) (by omega)) ?_
        refine JL.val rfl rfl rfl (.yes rfl rfl rfl) (Ev.move rfl) ?_
        refine JL.split (d := 56) rfl (fun hgS => ?_) (fun hgS => ?_)
        · -- guard 56 true
          refine JL.skip rfl rfl (.noF rfl rfl rfl) ?_
          refine JL.skip rfl rfl (.noF rfl rfl rfl) ?_
          refine JL.skip rfl rfl (.noF rfl rfl rfl) ?_
          refine JL.val rfl rfl rfl (.yes rfl rfl rfl) (Ev.pickT rfl rfl) ?_
          refine JL.val rfl rfl rfl (.none rfl) (Ev.pickT rfl rfl) ?_
          refine JL.val rfl rfl rfl (.none rfl) (Ev.assign rfl) ?_
          refine JL.nil ?_
          refine JQ.thenN ?_
          refine JC.ret ?_
          refine JQ.end1 (H' := []) (.inl rfl) rfl (.tmp rfl) ?_ ?_
          · first | exact Sub.all | exact Sub.of_cnt (fun a => by (try dsimp only); simp only [cntA]; omega) | repeat (first | exact Sub.nil | refine Sub.cons (by first | exact .here | exact .there .here | exact .there (.there .here) | exact .there (.there (.there .here)) | exact .there (.there (.there (.there .here)))) ?_ | exact Sub.all)
          · first | rfl | exact congrArg Value.bool (by rw [decide_eq_false (fun h => hrt (by rw [h]))]; rfl) | exact congrArg Value.bool (by rw [hgS]; rfl)
        · -- guard 56 false
          refine JL.val rfl rfl rfl (.yes rfl rfl rfl) (Ev.move rfl) ?_
          refine JL.val rfl rfl rfl (.yes rfl rfl rfl) (Ev.move rfl) ?_
          refine JL.callV rfl (.yes rfl rfl rfl) rfl Tryd.call24 (fun w1 hw1 => found_any oa ob ca cb l m w1 (hl.old hw1) (hm.old hw1) hlm (by rw [← rootV_ok hsm, ← rootV_ok hsm2, hrt]) (by omega) (hk.old hw1) (hf.old hw1)) ?_
          refine JL.val rfl rfl rfl (.yes rfl rfl rfl) (Ev.pickF rfl rfl) ?_
          refine JL.val rfl rfl rfl (.none rfl) (Ev.pickT rfl rfl) ?_
          refine JL.val rfl rfl rfl (.none rfl) (Ev.assign rfl) ?_
          refine JL.nil ?_
          refine JQ.thenN ?_
          refine JC.ret ?_
          refine JQ.end1 (H' := []) (.inl rfl) rfl (.tmp rfl) ?_ ?_
          · first | exact Sub.all | exact Sub.of_cnt (fun a => by (try dsimp only); simp only [cntA]; omega) | repeat (first | exact Sub.nil | refine Sub.cons (by first | exact .here | exact .there .here | exact .there (.there .here) | exact .there (.there (.there .here)) | exact .there (.there (.there (.there .here)))) ?_ | exact Sub.all)
          · first | rfl | exact congrArg Value.bool (by rw [decide_eq_false (fun h => hrt (by rw [h]))]; rfl) | exact congrArg Value.bool (by rw [hgS]; rfl)

end Go.Proofs.YtebinlinhmohbaaDoor
