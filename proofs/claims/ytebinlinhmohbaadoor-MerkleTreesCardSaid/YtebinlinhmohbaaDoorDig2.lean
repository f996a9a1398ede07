/-
  One step of the program's digest: a state after compressing a block.
-/
import Derived.Test.YtebinlinhmohbaaDoorDig1
namespace Go.Proofs.YtebinlinhmohbaaDoor
open Go Go.RowKit
set_option maxRecDepth 100000

theorem step_any (s : St) (a : Addr) (cap : Nat) (l : List UInt8) (w : World) (hk : KMem 1 w) (hm : BMem w a l) (hl : l.length = 64) (hc : 64 ≤ cap) :
    Calls Tryd.prog 48 #[.agg (arr32 s.l), .slice (some a) 64 cap] w (Ret w (fun v _ => v = .agg (arr32 (comp s l).l))) := by
  refine enter (vs := [.agg (arr32 s.l), .slice (some a) 64 cap]) Tryd.func48 rfl Tryd.ntmps48 rfl ?_
  refine JC.seq ?_
  -- region 0
  refine JC.region ?_
  refine JL.new rfl rfl rfl (.none rfl) (En.boxA rfl) (fun b2 hb2 => ?_)
  refine JL.new rfl rfl rfl (.none rfl) (En.allocZ (cs := arr32 (List.replicate 8 0)) Tryd.zeroValue78 rfl) (fun b4 hb4 => ?_)
  refine JL.nil ?_
  refine JQ.reH (o' := .cells (arr32 (List.replicate 8 0)) 78 (0, 0)) .here rfl ?_
  refine JQ.thenN ?_
  refine JC.seq ?_
  -- region 1
  refine JC.cut (X := Nat × Nat) (fun ⟨b5, b6⟩ => [(2, .pointer (some ⟨b2, 0, none⟩)), (4, .pointer (some ⟨b4, 0, none⟩)), (5, .pointer (some ⟨b5, 0, none⟩)), (6, .pointer (some ⟨b6, 0, none⟩))]) (fun ⟨b5, b6⟩ => [(b6, .cells (arr32 s.l) 78 (0, 0)), (b5, .cells (arr32 (sched l 64)) 90 (0, 0)), (b4, .cells (arr32 (List.replicate 8 0)) 78 (0, 0)), (b2, .cells (arr32 s.l) 78 (0, 0))]) ?_ ?_
  · refine JC.regionA (by kernel_rfl) ?_
    refine JA.take 0 rfl rfl rfl rfl (by kernel_rfl) (by kernel_rfl) (by kernel_rfl) (fun _ _ _ h => absurd h.1 (by simp)) (fun _ _ => rfl) (.none rfl) (fun _ => (Ev.move rfl)) ?_
    refine JA.branch [1, 2, 3, 4] (by kernel_rfl) rfl ?_
    refine JAll.cons rfl ?_ ?_
    · -- 1
      refine JO.callV rfl (.none rfl) rfl Tryd.call56 (fun w1 hw1 => spread_any a cap l w1 (hm.old hw1) hl hc) ?_
      refine JA.branch [2, 3, 4] (by kernel_rfl) rfl ?_
      refine JAll.cons rfl ?_ ?_
      · -- 2
        refine JO.val rfl rfl rfl (.none rfl) (Ev.loadB rfl (by repeat (first | exact List.Mem.head _ | refine List.Mem.tail _ ?_ | refine List.mem_append_right _ ?_ | assumption)) Tryd.underlying78 rfl Tryd.sizeOf78 (by first | rfl | exact dig_size _ | (rw [arr8_size]; first | exact sha_length _ | exact shaO_length _ | assumption))) ?_
        refine JA.branch [3, 4] (by kernel_rfl) rfl ?_
        refine JAll.cons rfl ?_ ?_
        · -- 3
          refine JO.new rfl rfl rfl (.none rfl) (En.allocZ (cs := arr32 (List.replicate 64 0)) Tryd.zeroValue90 rfl) (fun b5 hb5 => ?_)
          refine JA.branch [4] (by kernel_rfl) rfl ?_
          refine JAll.cons rfl ?_ JAll.nil
          refine JO.new rfl rfl rfl (.none rfl) (En.allocZ (cs := arr32 (List.replicate 8 0)) Tryd.zeroValue78 rfl) (fun b6 hb6 => ?_)
          refine JA.branch [5] (by kernel_rfl) rfl ?_
          refine JAll.cons rfl ?_ JAll.nil
          refine JO.sto rfl rfl (.none rfl) (Es.storeA rfl rfl Tryd.sizeOf90 (by repeat (first | exact .here | apply Upd.there | apply Upd.left)) (by rw [arr32_size, sched_length]) (by first | rfl | exact dig_size _ | (rw [arr8_size]; first | exact sha_length _ | exact shaO_length _ | assumption)) (arr32_one _)) ?_
          refine JA.branch [6] (by kernel_rfl) rfl ?_
          refine JAll.cons rfl ?_ JAll.nil
          refine JO.sto rfl rfl (.none rfl) (Es.storeA rfl rfl Tryd.sizeOf78 (by repeat (first | exact .here | apply Upd.there | apply Upd.left)) (by first | rfl | exact dig_size _ | (rw [arr8_size]; first | exact sha_length _ | exact shaO_length _ | assumption)) (by first | rfl | exact dig_size _ | (rw [arr8_size]; first | exact sha_length _ | exact shaO_length _ | assumption)) (arr32_one _)) ?_
          refine JA.done (by kernel_rfl) ?_
          refine JQ.cutN (b5, b6) ?_ ?_
          · exact Keeps.get (by repeat (first | exact Keeps.nil | refine Keeps.cons rfl ?_))
          · first | exact Sub.all | exact Sub.of_cnt (fun a => by (try dsimp only); simp only [cntA]; omega) | repeat (first | exact Sub.nil | refine Sub.cons (by first | exact .here | exact .there .here | exact .there (.there .here) | exact .there (.there (.there .here)) | exact .there (.there (.there (.there .here)))) ?_ | exact Sub.all)
        refine JAll.cons rfl ?_ JAll.nil
        refine JO.new rfl rfl rfl (.none rfl) (En.allocZ (cs := arr32 (List.replicate 8 0)) Tryd.zeroValue78 rfl) (fun b6 hb6 => ?_)
        refine JA.branch [3] (by kernel_rfl) rfl ?_
        refine JAll.cons rfl ?_ JAll.nil
        refine JO.new rfl rfl rfl (.none rfl) (En.allocZ (cs := arr32 (List.replicate 64 0)) Tryd.zeroValue90 rfl) (fun b5 hb5 => ?_)
        refine JA.branch [5] (by kernel_rfl) rfl ?_
        refine JAll.cons rfl ?_ JAll.nil
        refine JO.sto rfl rfl (.none rfl) (Es.storeA rfl rfl Tryd.sizeOf90 (by repeat (first | exact .here | apply Upd.there | apply Upd.left)) (by rw [arr32_size, sched_length]) (by first | rfl | exact dig_size _ | (rw [arr8_size]; first | exact sha_length _ | exact shaO_length _ | assumption)) (arr32_one _)) ?_
        refine JA.branch [6] (by kernel_rfl) rfl ?_
        refine JAll.cons rfl ?_ JAll.nil
        refine JO.sto rfl rfl (.none rfl) (Es.storeA rfl rfl Tryd.sizeOf78 (by repeat (first | exact .here | apply Upd.there | apply Upd.left)) (by first | rfl | exact dig_size _ | (rw [arr8_size]; first | exact sha_length _ | exact shaO_length _ | assumption)) (by first | rfl | exact dig_size _ | (rw [arr8_size]; first | exact sha_length _ | exact shaO_length _ | assumption)) (arr32_one _)) ?_
        refine JA.done (by kernel_rfl) ?_
        refine JQ.cutN (b5, b6) ?_ ?_
        · exact Keeps.get (by repeat (first | exact Keeps.nil | refine Keeps.cons rfl ?_))
        · first | exact Sub.all | exact Sub.of_cnt (fun a => by (try dsimp only); simp only [cntA]; omega) | repeat (first | exact Sub.nil | refine Sub.cons (by first | exact .here | exact .there .here | exact .there (.there .here) | exact .there (.there (.there .here)) | exact .there (.there (.there (.there .here)))) ?_ | exact Sub.all)
      refine JAll.cons rfl ?_ ?_
      · -- 3
        refine JO.new rfl rfl rfl (.none rfl) (En.allocZ (cs := arr32 (List.replicate 64 0)) Tryd.zeroValue90 rfl) (fun b5 hb5 => ?_)
        refine JA.branch [2, 4] (by kernel_rfl) rfl ?_
        refine JAll.cons rfl ?_ ?_
        · -- 2
          refine JO.val rfl rfl rfl (.none rfl) (Ev.loadB rfl (by repeat (first | exact List.Mem.head _ | refine List.Mem.tail _ ?_ | refine List.mem_append_right _ ?_ | assumption)) Tryd.underlying78 rfl Tryd.sizeOf78 (by first | rfl | exact dig_size _ | (rw [arr8_size]; first | exact sha_length _ | exact shaO_length _ | assumption))) ?_
          refine JA.branch [4] (by kernel_rfl) rfl ?_
          refine JAll.cons rfl ?_ JAll.nil
          refine JO.new rfl rfl rfl (.none rfl) (En.allocZ (cs := arr32 (List.replicate 8 0)) Tryd.zeroValue78 rfl) (fun b6 hb6 => ?_)
          refine JA.branch [5] (by kernel_rfl) rfl ?_
          refine JAll.cons rfl ?_ JAll.nil
          refine JO.sto rfl rfl (.none rfl) (Es.storeA rfl rfl Tryd.sizeOf90 (by repeat (first | exact .here | apply Upd.there | apply Upd.left)) (by rw [arr32_size, sched_length]) (by first | rfl | exact dig_size _ | (rw [arr8_size]; first | exact sha_length _ | exact shaO_length _ | assumption)) (arr32_one _)) ?_
          refine JA.branch [6] (by kernel_rfl) rfl ?_
          refine JAll.cons rfl ?_ JAll.nil
          refine JO.sto rfl rfl (.none rfl) (Es.storeA rfl rfl Tryd.sizeOf78 (by repeat (first | exact .here | apply Upd.there | apply Upd.left)) (by first | rfl | exact dig_size _ | (rw [arr8_size]; first | exact sha_length _ | exact shaO_length _ | assumption)) (by first | rfl | exact dig_size _ | (rw [arr8_size]; first | exact sha_length _ | exact shaO_length _ | assumption)) (arr32_one _)) ?_
          refine JA.done (by kernel_rfl) ?_
          refine JQ.cutN (b5, b6) ?_ ?_
          · exact Keeps.get (by repeat (first | exact Keeps.nil | refine Keeps.cons rfl ?_))
          · first | exact Sub.all | exact Sub.of_cnt (fun a => by (try dsimp only); simp only [cntA]; omega) | repeat (first | exact Sub.nil | refine Sub.cons (by first | exact .here | exact .there .here | exact .there (.there .here) | exact .there (.there (.there .here)) | exact .there (.there (.there (.there .here)))) ?_ | exact Sub.all)
        refine JAll.cons rfl ?_ JAll.nil
        refine JO.new rfl rfl rfl (.none rfl) (En.allocZ (cs := arr32 (List.replicate 8 0)) Tryd.zeroValue78 rfl) (fun b6 hb6 => ?_)
        refine JA.branch [2, 5] (by kernel_rfl) rfl ?_
        refine JAll.cons rfl ?_ ?_
        · -- 2
          refine JO.val rfl rfl rfl (.none rfl) (Ev.loadB rfl (by repeat (first | exact List.Mem.head _ | refine List.Mem.tail _ ?_ | refine List.mem_append_right _ ?_ | assumption)) Tryd.underlying78 rfl Tryd.sizeOf78 (by first | rfl | exact dig_size _ | (rw [arr8_size]; first | exact sha_length _ | exact shaO_length _ | assumption))) ?_
          refine JA.branch [5] (by kernel_rfl) rfl ?_
          refine JAll.cons rfl ?_ JAll.nil
          refine JO.sto rfl rfl (.none rfl) (Es.storeA rfl rfl Tryd.sizeOf90 (by repeat (first | exact .here | apply Upd.there | apply Upd.left)) (by rw [arr32_size, sched_length]) (by first | rfl | exact dig_size _ | (rw [arr8_size]; first | exact sha_length _ | exact shaO_length _ | assumption)) (arr32_one _)) ?_
          refine JA.branch [6] (by kernel_rfl) rfl ?_
          refine JAll.cons rfl ?_ JAll.nil
          refine JO.sto rfl rfl (.none rfl) (Es.storeA rfl rfl Tryd.sizeOf78 (by repeat (first | exact .here | apply Upd.there | apply Upd.left)) (by first | rfl | exact dig_size _ | (rw [arr8_size]; first | exact sha_length _ | exact shaO_length _ | assumption)) (by first | rfl | exact dig_size _ | (rw [arr8_size]; first | exact sha_length _ | exact shaO_length _ | assumption)) (arr32_one _)) ?_
          refine JA.done (by kernel_rfl) ?_
          refine JQ.cutN (b5, b6) ?_ ?_
          · exact Keeps.get (by repeat (first | exact Keeps.nil | refine Keeps.cons rfl ?_))
          · first | exact Sub.all | exact Sub.of_cnt (fun a => by (try dsimp only); simp only [cntA]; omega) | repeat (first | exact Sub.nil | refine Sub.cons (by first | exact .here | exact .there .here | exact .there (.there .here) | exact .there (.there (.there .here)) | exact .there (.there (.there (.there .here)))) ?_ | exact Sub.all)
        refine JAll.cons rfl ?_ JAll.nil
        refine JO.sto rfl rfl (.none rfl) (Es.storeA rfl rfl Tryd.sizeOf90 (by repeat (first | exact .here | apply Upd.there | apply Upd.left)) (by rw [arr32_size, sched_length]) (by first | rfl | exact dig_size _ | (rw [arr8_size]; first | exact sha_length _ | exact shaO_length _ | assumption)) (arr32_one _)) ?_
        refine JA.branch [2] (by kernel_rfl) rfl ?_
        refine JAll.cons rfl ?_ JAll.nil
        refine JO.val rfl rfl rfl (.none rfl) (Ev.loadB rfl (by repeat (first | exact List.Mem.head _ | refine List.Mem.tail _ ?_ | refine List.mem_append_right _ ?_ | assumption)) Tryd.underlying78 rfl Tryd.sizeOf78 (by first | rfl | exact dig_size _ | (rw [arr8_size]; first | exact sha_length _ | exact shaO_length _ | assumption))) ?_
        refine JA.branch [6] (by kernel_rfl) rfl ?_
        refine JAll.cons rfl ?_ JAll.nil
        refine JO.sto rfl rfl (.none rfl) (Es.storeA rfl rfl Tryd.sizeOf78 (by repeat (first | exact .here | apply Upd.there | apply Upd.left)) (by first | rfl | exact dig_size _ | (rw [arr8_size]; first | exact sha_length _ | exact shaO_length _ | assumption)) (by first | rfl | exact dig_size _ | (rw [arr8_size]; first | exact sha_length _ | exact shaO_length _ | assumption)) (arr32_one _)) ?_
        refine JA.done (by kernel_rfl) ?_
        refine JQ.cutN (b5, b6) ?_ ?_
        · exact Keeps.get (by repeat (first | exact Keeps.nil | refine Keeps.cons rfl ?_))
        · first | exact Sub.all | exact Sub.of_cnt (fun a => by (try dsimp only); simp only [cntA]; omega) | repeat (first | exact Sub.nil | refine Sub.cons (by first | exact .here | exact .there .here | exact .there (.there .here) | exact .there (.there (.there .here)) | exact .there (.there (.there (.there .here)))) ?_ | exact Sub.all)
      refine JAll.cons rfl ?_ JAll.nil
      refine JO.new rfl rfl rfl (.none rfl) (En.allocZ (cs := arr32 (List.replicate 8 0)) Tryd.zeroValue78 rfl) (fun b6 hb6 => ?_)
      refine JA.branch [2, 3] (by kernel_rfl) rfl ?_
      refine JAll.cons rfl ?_ ?_
      · -- 2
        refine JO.val rfl rfl rfl (.none rfl) (Ev.loadB rfl (by repeat (first | exact List.Mem.head _ | refine List.Mem.tail _ ?_ | refine List.mem_append_right _ ?_ | assumption)) Tryd.underlying78 rfl Tryd.sizeOf78 (by first | rfl | exact dig_size _ | (rw [arr8_size]; first | exact sha_length _ | exact shaO_length _ | assumption))) ?_
        refine JA.branch [3] (by kernel_rfl) rfl ?_
        refine JAll.cons rfl ?_ JAll.nil
        refine JO.new rfl rfl rfl (.none rfl) (En.allocZ (cs := arr32 (List.replicate 64 0)) Tryd.zeroValue90 rfl) (fun b5 hb5 => ?_)
        refine JA.branch [5] (by kernel_rfl) rfl ?_
        refine JAll.cons rfl ?_ JAll.nil
        refine JO.sto rfl rfl (.none rfl) (Es.storeA rfl rfl Tryd.sizeOf90 (by repeat (first | exact .here | apply Upd.there | apply Upd.left)) (by rw [arr32_size, sched_length]) (by first | rfl | exact dig_size _ | (rw [arr8_size]; first | exact sha_length _ | exact shaO_length _ | assumption)) (arr32_one _)) ?_
        refine JA.branch [6] (by kernel_rfl) rfl ?_
        refine JAll.cons rfl ?_ JAll.nil
        refine JO.sto rfl rfl (.none rfl) (Es.storeA rfl rfl Tryd.sizeOf78 (by repeat (first | exact .here | apply Upd.there | apply Upd.left)) (by first | rfl | exact dig_size _ | (rw [arr8_size]; first | exact sha_length _ | exact shaO_length _ | assumption)) (by first | rfl | exact dig_size _ | (rw [arr8_size]; first | exact sha_length _ | exact shaO_length _ | assumption)) (arr32_one _)) ?_
        refine JA.done (by kernel_rfl) ?_
        refine JQ.cutN (b5, b6) ?_ ?_
        · exact Keeps.get (by repeat (first | exact Keeps.nil | refine Keeps.cons rfl ?_))
        · first | exact Sub.all | exact Sub.of_cnt (fun a => by (try dsimp only); simp only [cntA]; omega) | repeat (first | exact Sub.nil | refine Sub.cons (by first | exact .here | exact .there .here | exact .there (.there .here) | exact .there (.there (.there .here)) | exact .there (.there (.there (.there .here)))) ?_ | exact Sub.all)
      refine JAll.cons rfl ?_ JAll.nil
      refine JO.new rfl rfl rfl (.none rfl) (En.allocZ (cs := arr32 (List.replicate 64 0)) Tryd.zeroValue90 rfl) (fun b5 hb5 => ?_)
      refine JA.branch [2, 5] (by kernel_rfl) rfl ?_
      refine JAll.cons rfl ?_ ?_
      · -- 2
        refine JO.val rfl rfl rfl (.none rfl) (Ev.loadB rfl (by repeat (first | exact List.Mem.head _ | refine List.Mem.tail _ ?_ | refine List.mem_append_right _ ?_ | assumption)) Tryd.underlying78 rfl Tryd.sizeOf78 (by first | rfl | exact dig_size _ | (rw [arr8_size]; first | exact sha_length _ | exact shaO_length _ | assumption))) ?_
        refine JA.branch [5] (by kernel_rfl) rfl ?_
        refine JAll.cons rfl ?_ JAll.nil
        refine JO.sto rfl rfl (.none rfl) (Es.storeA rfl rfl Tryd.sizeOf90 (by repeat (first | exact .here | apply Upd.there | apply Upd.left)) (by rw [arr32_size, sched_length]) (by first | rfl | exact dig_size _ | (rw [arr8_size]; first | exact sha_length _ | exact shaO_length _ | assumption)) (arr32_one _)) ?_
        refine JA.branch [6] (by kernel_rfl) rfl ?_
        refine JAll.cons rfl ?_ JAll.nil
        refine JO.sto rfl rfl (.none rfl) (Es.storeA rfl rfl Tryd.sizeOf78 (by repeat (first | exact .here | apply Upd.there | apply Upd.left)) (by first | rfl | exact dig_size _ | (rw [arr8_size]; first | exact sha_length _ | exact shaO_length _ | assumption)) (by first | rfl | exact dig_size _ | (rw [arr8_size]; first | exact sha_length _ | exact shaO_length _ | assumption)) (arr32_one _)) ?_
        refine JA.done (by kernel_rfl) ?_
        refine JQ.cutN (b5, b6) ?_ ?_
        · exact Keeps.get (by repeat (first | exact Keeps.nil | refine Keeps.cons rfl ?_))
        · first | exact Sub.all | exact Sub.of_cnt (fun a => by (try dsimp only); simp only [cntA]; omega) | repeat (first | exact Sub.nil | refine Sub.cons (by first | exact .here | exact .there .here | exact .there (.there .here) | exact .there (.there (.there .here)) | exact .there (.there (.there (.there .here)))) ?_ | exact Sub.all)
      refine JAll.cons rfl ?_ JAll.nil
      refine JO.sto rfl rfl (.none rfl) (Es.storeA rfl rfl Tryd.sizeOf90 (by repeat (first | exact .here | apply Upd.there | apply Upd.left)) (by rw [arr32_size, sched_length]) (by first | rfl | exact dig_size _ | (rw [arr8_size]; first | exact sha_length _ | exact shaO_length _ | assumption)) (arr32_one _)) ?_
      refine JA.branch [2] (by kernel_rfl) rfl ?_
      refine JAll.cons rfl ?_ JAll.nil
      refine JO.val rfl rfl rfl (.none rfl) (Ev.loadB rfl (by repeat (first | exact List.Mem.head _ | refine List.Mem.tail _ ?_ | refine List.mem_append_right _ ?_ | assumption)) Tryd.underlying78 rfl Tryd.sizeOf78 (by first | rfl | exact dig_size _ | (rw [arr8_size]; first | exact sha_length _ | exact shaO_length _ | assumption))) ?_
      refine JA.branch [6] (by kernel_rfl) rfl ?_
      refine JAll.cons rfl ?_ JAll.nil
      refine JO.sto rfl rfl (.none rfl) (Es.storeA rfl rfl Tryd.sizeOf78 (by repeat (first | exact .here | apply Upd.there | apply Upd.left)) (by first | rfl | exact dig_size _ | (rw [arr8_size]; first | exact sha_length _ | exact shaO_length _ | assumption)) (by first | rfl | exact dig_size _ | (rw [arr8_size]; first | exact sha_length _ | exact shaO_length _ | assumption)) (arr32_one _)) ?_
      refine JA.done (by kernel_rfl) ?_
      refine JQ.cutN (b5, b6) ?_ ?_
      · exact Keeps.get (by repeat (first | exact Keeps.nil | refine Keeps.cons rfl ?_))
      · first | exact Sub.all | exact Sub.of_cnt (fun a => by (try dsimp only); simp only [cntA]; omega) | repeat (first | exact Sub.nil | refine Sub.cons (by first | exact .here | exact .there .here | exact .there (.there .here) | exact .there (.there (.there .here)) | exact .there (.there (.there (.there .here)))) ?_ | exact Sub.all)
    refine JAll.cons rfl ?_ ?_
    · -- 2
      refine JO.val rfl rfl rfl (.none rfl) (Ev.loadB rfl (by repeat (first | exact List.Mem.head _ | refine List.Mem.tail _ ?_ | refine List.mem_append_right _ ?_ | assumption)) Tryd.underlying78 rfl Tryd.sizeOf78 (by first | rfl | exact dig_size _ | (rw [arr8_size]; first | exact sha_length _ | exact shaO_length _ | assumption))) ?_
      refine JA.branch [1, 3, 4] (by kernel_rfl) rfl ?_
      refine JAll.cons rfl ?_ ?_
      · -- 1
        refine JO.callV rfl (.none rfl) rfl Tryd.call56 (fun w1 hw1 => spread_any a cap l w1 (hm.old hw1) hl hc) ?_
        refine JA.branch [3, 4] (by kernel_rfl) rfl ?_
        refine JAll.cons rfl ?_ ?_
        · -- 3
          refine JO.new rfl rfl rfl (.none rfl) (En.allocZ (cs := arr32 (List.replicate 64 0)) Tryd.zeroValue90 rfl) (fun b5 hb5 => ?_)
          refine JA.branch [4] (by kernel_rfl) rfl ?_
          refine JAll.cons rfl ?_ JAll.nil
          refine JO.new rfl rfl rfl (.none rfl) (En.allocZ (cs := arr32 (List.replicate 8 0)) Tryd.zeroValue78 rfl) (fun b6 hb6 => ?_)
          refine JA.branch [5] (by kernel_rfl) rfl ?_
          refine JAll.cons rfl ?_ JAll.nil
          refine JO.sto rfl rfl (.none rfl) (Es.storeA rfl rfl Tryd.sizeOf90 (by repeat (first | exact .here | apply Upd.there | apply Upd.left)) (by rw [arr32_size, sched_length]) (by first | rfl | exact dig_size _ | (rw [arr8_size]; first | exact sha_length _ | exact shaO_length _ | assumption)) (arr32_one _)) ?_
          refine JA.branch [6] (by kernel_rfl) rfl ?_
          refine JAll.cons rfl ?_ JAll.nil
          refine JO.sto rfl rfl (.none rfl) (Es.storeA rfl rfl Tryd.sizeOf78 (by repeat (first | exact .here | apply Upd.there | apply Upd.left)) (by first | rfl | exact dig_size _ | (rw [arr8_size]; first | exact sha_length _ | exact shaO_length _ | assumption)) (by first | rfl | exact dig_size _ | (rw [arr8_size]; first | exact sha_length _ | exact shaO_length _ | assumption)) (arr32_one _)) ?_
          refine JA.done (by kernel_rfl) ?_
          refine JQ.cutN (b5, b6) ?_ ?_
          · exact Keeps.get (by repeat (first | exact Keeps.nil | refine Keeps.cons rfl ?_))
          · first | exact Sub.all | exact Sub.of_cnt (fun a => by (try dsimp only); simp only [cntA]; omega) | repeat (first | exact Sub.nil | refine Sub.cons (by first | exact .here | exact .there .here | exact .there (.there .here) | exact .there (.there (.there .here)) | exact .there (.there (.there (.there .here)))) ?_ | exact Sub.all)
        refine JAll.cons rfl ?_ JAll.nil
        refine JO.new rfl rfl rfl (.none rfl) (En.allocZ (cs := arr32 (List.replicate 8 0)) Tryd.zeroValue78 rfl) (fun b6 hb6 => ?_)
        refine JA.branch [3] (by kernel_rfl) rfl ?_
        refine JAll.cons rfl ?_ JAll.nil
        refine JO.new rfl rfl rfl (.none rfl) (En.allocZ (cs := arr32 (List.replicate 64 0)) Tryd.zeroValue90 rfl) (fun b5 hb5 => ?_)
        refine JA.branch [5] (by kernel_rfl) rfl ?_
        refine JAll.cons rfl ?_ JAll.nil
        refine JO.sto rfl rfl (.none rfl) (Es.storeA rfl rfl Tryd.sizeOf90 (by repeat (first | exact .here | apply Upd.there | apply Upd.left)) (by rw [arr32_size, sched_length]) (by first | rfl | exact dig_size _ | (rw [arr8_size]; first | exact sha_length _ | exact shaO_length _ | assumption)) (arr32_one _)) ?_
        refine JA.branch [6] (by kernel_rfl) rfl ?_
        refine JAll.cons rfl ?_ JAll.nil
        refine JO.sto rfl rfl (.none rfl) (Es.storeA rfl rfl Tryd.sizeOf78 (by repeat (first | exact .here | apply Upd.there | apply Upd.left)) (by first | rfl | exact dig_size _ | (rw [arr8_size]; first | exact sha_length _ | exact shaO_length _ | assumption)) (by first | rfl | exact dig_size _ | (rw [arr8_size]; first | exact sha_length _ | exact shaO_length _ | assumption)) (arr32_one _)) ?_
        refine JA.done (by kernel_rfl) ?_
        refine JQ.cutN (b5, b6) ?_ ?_
        · exact Keeps.get (by repeat (first | exact Keeps.nil | refine Keeps.cons rfl ?_))
        · first | exact Sub.all | exact Sub.of_cnt (fun a => by (try dsimp only); simp only [cntA]; omega) | repeat (first | exact Sub.nil | refine Sub.cons (by first | exact .here | exact .there .here | exact .there (.there .here) | exact .there (.there (.there .here)) | exact .there (.there (.there (.there .here)))) ?_ | exact Sub.all)
      refine JAll.cons rfl ?_ ?_
      · -- 3
        refine JO.new rfl rfl rfl (.none rfl) (En.allocZ (cs := arr32 (List.replicate 64 0)) Tryd.zeroValue90 rfl) (fun b5 hb5 => ?_)
        refine JA.branch [1, 4] (by kernel_rfl) rfl ?_
        refine JAll.cons rfl ?_ ?_
        · -- 1
          refine JO.callV rfl (.none rfl) rfl Tryd.call56 (fun w1 hw1 => spread_any a cap l w1 (hm.old hw1) hl hc) ?_
          refine JA.branch [4] (by kernel_rfl) rfl ?_
          refine JAll.cons rfl ?_ JAll.nil
          refine JO.new rfl rfl rfl (.none rfl) (En.allocZ (cs := arr32 (List.replicate 8 0)) Tryd.zeroValue78 rfl) (fun b6 hb6 => ?_)
          refine JA.branch [5] (by kernel_rfl) rfl ?_
          refine JAll.cons rfl ?_ JAll.nil
          refine JO.sto rfl rfl (.none rfl) (Es.storeA rfl rfl Tryd.sizeOf90 (by repeat (first | exact .here | apply Upd.there | apply Upd.left)) (by rw [arr32_size, sched_length]) (by first | rfl | exact dig_size _ | (rw [arr8_size]; first | exact sha_length _ | exact shaO_length _ | assumption)) (arr32_one _)) ?_
          refine JA.branch [6] (by kernel_rfl) rfl ?_
          refine JAll.cons rfl ?_ JAll.nil
          refine JO.sto rfl rfl (.none rfl) (Es.storeA rfl rfl Tryd.sizeOf78 (by repeat (first | exact .here | apply Upd.there | apply Upd.left)) (by first | rfl | exact dig_size _ | (rw [arr8_size]; first | exact sha_length _ | exact shaO_length _ | assumption)) (by first | rfl | exact dig_size _ | (rw [arr8_size]; first | exact sha_length _ | exact shaO_length _ | assumption)) (arr32_one _)) ?_
          refine JA.done (by kernel_rfl) ?_
          refine JQ.cutN (b5, b6) ?_ ?_
          · exact Keeps.get (by repeat (first | exact Keeps.nil | refine Keeps.cons rfl ?_))
          · first | exact Sub.all | exact Sub.of_cnt (fun a => by (try dsimp only); simp only [cntA]; omega) | repeat (first | exact Sub.nil | refine Sub.cons (by first | exact .here | exact .there .here | exact .there (.there .here) | exact .there (.there (.there .here)) | exact .there (.there (.there (.there .here)))) ?_ | exact Sub.all)
        refine JAll.cons rfl ?_ JAll.nil
        refine JO.new rfl rfl rfl (.none rfl) (En.allocZ (cs := arr32 (List.replicate 8 0)) Tryd.zeroValue78 rfl) (fun b6 hb6 => ?_)
        refine JA.branch [1] (by kernel_rfl) rfl ?_
        refine JAll.cons rfl ?_ JAll.nil
        refine JO.callV rfl (.none rfl) rfl Tryd.call56 (fun w1 hw1 => spread_any a cap l w1 (hm.old hw1) hl hc) ?_
        refine JA.branch [5] (by kernel_rfl) rfl ?_
        refine JAll.cons rfl ?_ JAll.nil
        refine JO.sto rfl rfl (.none rfl) (Es.storeA rfl rfl Tryd.sizeOf90 (by repeat (first | exact .here | apply Upd.there | apply Upd.left)) (by rw [arr32_size, sched_length]) (by first | rfl | exact dig_size _ | (rw [arr8_size]; first | exact sha_length _ | exact shaO_length _ | assumption)) (arr32_one _)) ?_
        refine JA.branch [6] (by kernel_rfl) rfl ?_
        refine JAll.cons rfl ?_ JAll.nil
        refine JO.sto rfl rfl (.none rfl) (Es.storeA rfl rfl Tryd.sizeOf78 (by repeat (first | exact .here | apply Upd.there | apply Upd.left)) (by first | rfl | exact dig_size _ | (rw [arr8_size]; first | exact sha_length _ | exact shaO_length _ | assumption)) (by first | rfl | exact dig_size _ | (rw [arr8_size]; first | exact sha_length _ | exact shaO_length _ | assumption)) (arr32_one _)) ?_
        refine JA.done (by kernel_rfl) ?_
        refine JQ.cutN (b5, b6) ?_ ?_
        · exact Keeps.get (by repeat (first | exact Keeps.nil | refine Keeps.cons rfl ?_))
        · first | exact Sub.all | exact Sub.of_cnt (fun a => by (try dsimp only); simp only [cntA]; omega) | repeat (first | exact Sub.nil | refine Sub.cons (by first | exact .here | exact .there .here | exact .there (.there .here) | exact .there (.there (.there .here)) | exact .there (.there (.there (.there .here)))) ?_ | exact Sub.all)
      refine JAll.cons rfl ?_ JAll.nil
      refine JO.new rfl rfl rfl (.none rfl) (En.allocZ (cs := arr32 (List.replicate 8 0)) Tryd.zeroValue78 rfl) (fun b6 hb6 => ?_)
      refine JA.branch [1, 3] (by kernel_rfl) rfl ?_
      refine JAll.cons rfl ?_ ?_
      · -- 1
        refine JO.callV rfl (.none rfl) rfl Tryd.call56 (fun w1 hw1 => spread_any a cap l w1 (hm.old hw1) hl hc) ?_
        refine JA.branch [3] (by kernel_rfl) rfl ?_
        refine JAll.cons rfl ?_ JAll.nil
        refine JO.new rfl rfl rfl (.none rfl) (En.allocZ (cs := arr32 (List.replicate 64 0)) Tryd.zeroValue90 rfl) (fun b5 hb5 => ?_)
        refine JA.branch [5] (by kernel_rfl) rfl ?_
        refine JAll.cons rfl ?_ JAll.nil
        refine JO.sto rfl rfl (.none rfl) (Es.storeA rfl rfl Tryd.sizeOf90 (by repeat (first | exact .here | apply Upd.there | apply Upd.left)) (by rw [arr32_size, sched_length]) (by first | rfl | exact dig_size _ | (rw [arr8_size]; first | exact sha_length _ | exact shaO_length _ | assumption)) (arr32_one _)) ?_
        refine JA.branch [6] (by kernel_rfl) rfl ?_
        refine JAll.cons rfl ?_ JAll.nil
        refine JO.sto rfl rfl (.none rfl) (Es.storeA rfl rfl Tryd.sizeOf78 (by repeat (first | exact .here | apply Upd.there | apply Upd.left)) (by first | rfl | exact dig_size _ | (rw [arr8_size]; first | exact sha_length _ | exact shaO_length _ | assumption)) (by first | rfl | exact dig_size _ | (rw [arr8_size]; first | exact sha_length _ | exact shaO_length _ | assumption)) (arr32_one _)) ?_
        refine JA.done (by kernel_rfl) ?_
        refine JQ.cutN (b5, b6) ?_ ?_
        · exact Keeps.get (by repeat (first | exact Keeps.nil | refine Keeps.cons rfl ?_))
        · first | exact Sub.all | exact Sub.of_cnt (fun a => by (try dsimp only); simp only [cntA]; omega) | repeat (first | exact Sub.nil | refine Sub.cons (by first | exact .here | exact .there .here | exact .there (.there .here) | exact .there (.there (.there .here)) | exact .there (.there (.there (.there .here)))) ?_ | exact Sub.all)
      refine JAll.cons rfl ?_ JAll.nil
      refine JO.new rfl rfl rfl (.none rfl) (En.allocZ (cs := arr32 (List.replicate 64 0)) Tryd.zeroValue90 rfl) (fun b5 hb5 => ?_)
      refine JA.branch [1] (by kernel_rfl) rfl ?_
      refine JAll.cons rfl ?_ JAll.nil
      refine JO.callV rfl (.none rfl) rfl Tryd.call56 (fun w1 hw1 => spread_any a cap l w1 (hm.old hw1) hl hc) ?_
      refine JA.branch [5] (by kernel_rfl) rfl ?_
      refine JAll.cons rfl ?_ JAll.nil
      refine JO.sto rfl rfl (.none rfl) (Es.storeA rfl rfl Tryd.sizeOf90 (by repeat (first | exact .here | apply Upd.there | apply Upd.left)) (by rw [arr32_size, sched_length]) (by first | rfl | exact dig_size _ | (rw [arr8_size]; first | exact sha_length _ | exact shaO_length _ | assumption)) (arr32_one _)) ?_
      refine JA.branch [6] (by kernel_rfl) rfl ?_
      refine JAll.cons rfl ?_ JAll.nil
      refine JO.sto rfl rfl (.none rfl) (Es.storeA rfl rfl Tryd.sizeOf78 (by repeat (first | exact .here | apply Upd.there | apply Upd.left)) (by first | rfl | exact dig_size _ | (rw [arr8_size]; first | exact sha_length _ | exact shaO_length _ | assumption)) (by first | rfl | exact dig_size _ | (rw [arr8_size]; first | exact sha_length _ | exact shaO_length _ | assumption)) (arr32_one _)) ?_
      refine JA.done (by kernel_rfl) ?_
      refine JQ.cutN (b5, b6) ?_ ?_
      · exact Keeps.get (by repeat (first | exact Keeps.nil | refine Keeps.cons rfl ?_))
      · first | exact Sub.all | exact Sub.of_cnt (fun a => by (try dsimp only); simp only [cntA]; omega) | repeat (first | exact Sub.nil | refine Sub.cons (by first | exact .here | exact .there .here | exact .there (.there .here) | exact .there (.there (.there .here)) | exact .there (.there (.there (.there .here)))) ?_ | exact Sub.all)
    refine JAll.cons rfl ?_ ?_
    · -- 3
      refine JO.new rfl rfl rfl (.none rfl) (En.allocZ (cs := arr32 (List.replicate 64 0)) Tryd.zeroValue90 rfl) (fun b5 hb5 => ?_)
      refine JA.branch [1, 2, 4] (by kernel_rfl) rfl ?_
      refine JAll.cons rfl ?_ ?_
      · -- 1
        refine JO.callV rfl (.none rfl) rfl Tryd.call56 (fun w1 hw1 => spread_any a cap l w1 (hm.old hw1) hl hc) ?_
        refine JA.branch [2, 4] (by kernel_rfl) rfl ?_
        refine JAll.cons rfl ?_ ?_
        · -- 2
          refine JO.val rfl rfl rfl (.none rfl) (Ev.loadB rfl (by repeat (first | exact List.Mem.head _ | refine List.Mem.tail _ ?_ | refine List.mem_append_right _ ?_ | assumption)) Tryd.underlying78 rfl Tryd.sizeOf78 (by first | rfl | exact dig_size _ | (rw [arr8_size]; first | exact sha_length _ | exact shaO_length _ | assumption))) ?_
          refine JA.branch [4] (by kernel_rfl) rfl ?_
          refine JAll.cons rfl ?_ JAll.nil
          refine JO.new rfl rfl rfl (.none rfl) (En.allocZ (cs := arr32 (List.replicate 8 0)) Tryd.zeroValue78 rfl) (fun b6 hb6 => ?_)
          refine JA.branch [5] (by kernel_rfl) rfl ?_
          refine JAll.cons rfl ?_ JAll.nil
          refine JO.sto rfl rfl (.none rfl) (Es.storeA rfl rfl Tryd.sizeOf90 (by repeat (first | exact .here | apply Upd.there | apply Upd.left)) (by rw [arr32_size, sched_length]) (by first | rfl | exact dig_size _ | (rw [arr8_size]; first | exact sha_length _ | exact shaO_length _ | assumption)) (arr32_one _)) ?_
          refine JA.branch [6] (by kernel_rfl) rfl ?_
          refine JAll.cons rfl ?_ JAll.nil
          refine JO.sto rfl rfl (.none rfl) (Es.storeA rfl rfl Tryd.sizeOf78 (by repeat (first | exact .here | apply Upd.there | apply Upd.left)) (by first | rfl | exact dig_size _ | (rw [arr8_size]; first | exact sha_length _ | exact shaO_length _ | assumption)) (by first | rfl | exact dig_size _ | (rw [arr8_size]; first | exact sha_length _ | exact shaO_length _ | assumption)) (arr32_one _)) ?_
          refine JA.done (by kernel_rfl) ?_
          refine JQ.cutN (b5, b6) ?_ ?_
          · exact Keeps.get (by repeat (first | exact Keeps.nil | refine Keeps.cons rfl ?_))
          · first | exact Sub.all | exact Sub.of_cnt (fun a => by (try dsimp only); simp only [cntA]; omega) | repeat (first | exact Sub.nil | refine Sub.cons (by first | exact .here | exact .there .here | exact .there (.there .here) | exact .there (.there (.there .here)) | exact .there (.there (.there (.there .here)))) ?_ | exact Sub.all)
        refine JAll.cons rfl ?_ JAll.nil
        refine JO.new rfl rfl rfl (.none rfl) (En.allocZ (cs := arr32 (List.replicate 8 0)) Tryd.zeroValue78 rfl) (fun b6 hb6 => ?_)
        refine JA.branch [2, 5] (by kernel_rfl) rfl ?_
        refine JAll.cons rfl ?_ ?_
        · -- 2
          refine JO.val rfl rfl rfl (.none rfl) (Ev.loadB rfl (by repeat (first | exact List.Mem.head _ | refine List.Mem.tail _ ?_ | refine List.mem_append_right _ ?_ | assumption)) Tryd.underlying78 rfl Tryd.sizeOf78 (by first | rfl | exact dig_size _ | (rw [arr8_size]; first | exact sha_length _ | exact shaO_length _ | assumption))) ?_
          refine JA.branch [5] (by kernel_rfl) rfl ?_
          refine JAll.cons rfl ?_ JAll.nil
          refine JO.sto rfl rfl (.none rfl) (Es.storeA rfl rfl Tryd.sizeOf90 (by repeat (first | exact .here | apply Upd.there | apply Upd.left)) (by rw [arr32_size, sched_length]) (by first | rfl | exact dig_size _ | (rw [arr8_size]; first | exact sha_length _ | exact shaO_length _ | assumption)) (arr32_one _)) ?_
          refine JA.branch [6] (by kernel_rfl) rfl ?_
          refine JAll.cons rfl ?_ JAll.nil
          refine JO.sto rfl rfl (.none rfl) (Es.storeA rfl rfl Tryd.sizeOf78 (by repeat (first | exact .here | apply Upd.there | apply Upd.left)) (by first | rfl | exact dig_size _ | (rw [arr8_size]; first | exact sha_length _ | exact shaO_length _ | assumption)) (by first | rfl | exact dig_size _ | (rw [arr8_size]; first | exact sha_length _ | exact shaO_length _ | assumption)) (arr32_one _)) ?_
          refine JA.done (by kernel_rfl) ?_
          refine JQ.cutN (b5, b6) ?_ ?_
          · exact Keeps.get (by repeat (first | exact Keeps.nil | refine Keeps.cons rfl ?_))
          · first | exact Sub.all | exact Sub.of_cnt (fun a => by (try dsimp only); simp only [cntA]; omega) | repeat (first | exact Sub.nil | refine Sub.cons (by first | exact .here | exact .there .here | exact .there (.there .here) | exact .there (.there (.there .here)) | exact .there (.there (.there (.there .here)))) ?_ | exact Sub.all)
        refine JAll.cons rfl ?_ JAll.nil
        refine JO.sto rfl rfl (.none rfl) (Es.storeA rfl rfl Tryd.sizeOf90 (by repeat (first | exact .here | apply Upd.there | apply Upd.left)) (by rw [arr32_size, sched_length]) (by first | rfl | exact dig_size _ | (rw [arr8_size]; first | exact sha_length _ | exact shaO_length _ | assumption)) (arr32_one _)) ?_
        refine JA.branch [2] (by kernel_rfl) rfl ?_
        refine JAll.cons rfl ?_ JAll.nil
        refine JO.val rfl rfl rfl (.none rfl) (Ev.loadB rfl (by repeat (first | exact List.Mem.head _ | refine List.Mem.tail _ ?_ | refine List.mem_append_right _ ?_ | assumption)) Tryd.underlying78 rfl Tryd.sizeOf78 (by first | rfl | exact dig_size _ | (rw [arr8_size]; first | exact sha_length _ | exact shaO_length _ | assumption))) ?_
        refine JA.branch [6] (by kernel_rfl) rfl ?_
        refine JAll.cons rfl ?_ JAll.nil
        refine JO.sto rfl rfl (.none rfl) (Es.storeA rfl rfl Tryd.sizeOf78 (by repeat (first | exact .here | apply Upd.there | apply Upd.left)) (by first | rfl | exact dig_size _ | (rw [arr8_size]; first | exact sha_length _ | exact shaO_length _ | assumption)) (by first | rfl | exact dig_size _ | (rw [arr8_size]; first | exact sha_length _ | exact shaO_length _ | assumption)) (arr32_one _)) ?_
        refine JA.done (by kernel_rfl) ?_
        refine JQ.cutN (b5, b6) ?_ ?_
        · exact Keeps.get (by repeat (first | exact Keeps.nil | refine Keeps.cons rfl ?_))
        · first | exact Sub.all | exact Sub.of_cnt (fun a => by (try dsimp only); simp only [cntA]; omega) | repeat (first | exact Sub.nil | refine Sub.cons (by first | exact .here | exact .there .here | exact .there (.there .here) | exact .there (.there (.there .here)) | exact .there (.there (.there (.there .here)))) ?_ | exact Sub.all)
      refine JAll.cons rfl ?_ ?_
      · -- 2
        refine JO.val rfl rfl rfl (.none rfl) (Ev.loadB rfl (by repeat (first | exact List.Mem.head _ | refine List.Mem.tail _ ?_ | refine List.mem_append_right _ ?_ | assumption)) Tryd.underlying78 rfl Tryd.sizeOf78 (by first | rfl | exact dig_size _ | (rw [arr8_size]; first | exact sha_length _ | exact shaO_length _ | assumption))) ?_
        refine JA.branch [1, 4] (by kernel_rfl) rfl ?_
        refine JAll.cons rfl ?_ ?_
        · -- 1
          refine JO.callV rfl (.none rfl) rfl Tryd.call56 (fun w1 hw1 => spread_any a cap l w1 (hm.old hw1) hl hc) ?_
          refine JA.branch [4] (by kernel_rfl) rfl ?_
          refine JAll.cons rfl ?_ JAll.nil
          refine JO.new rfl rfl rfl (.none rfl) (En.allocZ (cs := arr32 (List.replicate 8 0)) Tryd.zeroValue78 rfl) (fun b6 hb6 => ?_)
          refine JA.branch [5] (by kernel_rfl) rfl ?_
          refine JAll.cons rfl ?_ JAll.nil
          refine JO.sto rfl rfl (.none rfl) (Es.storeA rfl rfl Tryd.sizeOf90 (by repeat (first | exact .here | apply Upd.there | apply Upd.left)) (by rw [arr32_size, sched_length]) (by first | rfl | exact dig_size _ | (rw [arr8_size]; first | exact sha_length _ | exact shaO_length _ | assumption)) (arr32_one _)) ?_
          refine JA.branch [6] (by kernel_rfl) rfl ?_
          refine JAll.cons rfl ?_ JAll.nil
          refine JO.sto rfl rfl (.none rfl) (Es.storeA rfl rfl Tryd.sizeOf78 (by repeat (first | exact .here | apply Upd.there | apply Upd.left)) (by first | rfl | exact dig_size _ | (rw [arr8_size]; first | exact sha_length _ | exact shaO_length _ | assumption)) (by first | rfl | exact dig_size _ | (rw [arr8_size]; first | exact sha_length _ | exact shaO_length _ | assumption)) (arr32_one _)) ?_
          refine JA.done (by kernel_rfl) ?_
          refine JQ.cutN (b5, b6) ?_ ?_
          · exact Keeps.get (by repeat (first | exact Keeps.nil | refine Keeps.cons rfl ?_))
          · first | exact Sub.all | exact Sub.of_cnt (fun a => by (try dsimp only); simp only [cntA]; omega) | repeat (first | exact Sub.nil | refine Sub.cons (by first | exact .here | exact .there .here | exact .there (.there .here) | exact .there (.there (.there .here)) | exact .there (.there (.there (.there .here)))) ?_ | exact Sub.all)
        refine JAll.cons rfl ?_ JAll.nil
        refine JO.new rfl rfl rfl (.none rfl) (En.allocZ (cs := arr32 (List.replicate 8 0)) Tryd.zeroValue78 rfl) (fun b6 hb6 => ?_)
        refine JA.branch [1] (by kernel_rfl) rfl ?_
        refine JAll.cons rfl ?_ JAll.nil
        refine JO.callV rfl (.none rfl) rfl Tryd.call56 (fun w1 hw1 => spread_any a cap l w1 (hm.old hw1) hl hc) ?_
        refine JA.branch [5] (by kernel_rfl) rfl ?_
        refine JAll.cons rfl ?_ JAll.nil
        refine JO.sto rfl rfl (.none rfl) (Es.storeA rfl rfl Tryd.sizeOf90 (by repeat (first | exact .here | apply Upd.there | apply Upd.left)) (by rw [arr32_size, sched_length]) (by first | rfl | exact dig_size _ | (rw [arr8_size]; first | exact sha_length _ | exact shaO_length _ | assumption)) (arr32_one _)) ?_
        refine JA.branch [6] (by kernel_rfl) rfl ?_
        refine JAll.cons rfl ?_ JAll.nil
        refine JO.sto rfl rfl (.none rfl) (Es.storeA rfl rfl Tryd.sizeOf78 (by repeat (first | exact .here | apply Upd.there | apply Upd.left)) (by first | rfl | exact dig_size _ | (rw [arr8_size]; first | exact sha_length _ | exact shaO_length _ | assumption)) (by first | rfl | exact dig_size _ | (rw [arr8_size]; first | exact sha_length _ | exact shaO_length _ | assumption)) (arr32_one _)) ?_
        refine JA.done (by kernel_rfl) ?_
        refine JQ.cutN (b5, b6) ?_ ?_
        · exact Keeps.get (by repeat (first | exact Keeps.nil | refine Keeps.cons rfl ?_))
        · first | exact Sub.all | exact Sub.of_cnt (fun a => by (try dsimp only); simp only [cntA]; omega) | repeat (first | exact Sub.nil | refine Sub.cons (by first | exact .here | exact .there .here | exact .there (.there .here) | exact .there (.there (.there .here)) | exact .there (.there (.there (.there .here)))) ?_ | exact Sub.all)
      refine JAll.cons rfl ?_ JAll.nil
      refine JO.new rfl rfl rfl (.none rfl) (En.allocZ (cs := arr32 (List.replicate 8 0)) Tryd.zeroValue78 rfl) (fun b6 hb6 => ?_)
      refine JA.branch [1, 2] (by kernel_rfl) rfl ?_
      refine JAll.cons rfl ?_ ?_
      · -- 1
        refine JO.callV rfl (.none rfl) rfl Tryd.call56 (fun w1 hw1 => spread_any a cap l w1 (hm.old hw1) hl hc) ?_
        refine JA.branch [2, 5] (by kernel_rfl) rfl ?_
        refine JAll.cons rfl ?_ ?_
        · -- 2
          refine JO.val rfl rfl rfl (.none rfl) (Ev.loadB rfl (by repeat (first | exact List.Mem.head _ | refine List.Mem.tail _ ?_ | refine List.mem_append_right _ ?_ | assumption)) Tryd.underlying78 rfl Tryd.sizeOf78 (by first | rfl | exact dig_size _ | (rw [arr8_size]; first | exact sha_length _ | exact shaO_length _ | assumption))) ?_
          refine JA.branch [5] (by kernel_rfl) rfl ?_
          refine JAll.cons rfl ?_ JAll.nil
          refine JO.sto rfl rfl (.none rfl) (Es.storeA rfl rfl Tryd.sizeOf90 (by repeat (first | exact .here | apply Upd.there | apply Upd.left)) (by rw [arr32_size, sched_length]) (by first | rfl | exact dig_size _ | (rw [arr8_size]; first | exact sha_length _ | exact shaO_length _ | assumption)) (arr32_one _)) ?_
          refine JA.branch [6] (by kernel_rfl) rfl ?_
          refine JAll.cons rfl ?_ JAll.nil
          refine JO.sto rfl rfl (.none rfl) (Es.storeA rfl rfl Tryd.sizeOf78 (by repeat (first | exact .here | apply Upd.there | apply Upd.left)) (by first | rfl | exact dig_size _ | (rw [arr8_size]; first | exact sha_length _ | exact shaO_length _ | assumption)) (by first | rfl | exact dig_size _ | (rw [arr8_size]; first | exact sha_length _ | exact shaO_length _ | assumption)) (arr32_one _)) ?_
          refine JA.done (by kernel_rfl) ?_
          refine JQ.cutN (b5, b6) ?_ ?_
          · exact Keeps.get (by repeat (first | exact Keeps.nil | refine Keeps.cons rfl ?_))
          · first | exact Sub.all | exact Sub.of_cnt (fun a => by (try dsimp only); simp only [cntA]; omega) | repeat (first | exact Sub.nil | refine Sub.cons (by first | exact .here | exact .there .here | exact .there (.there .here) | exact .there (.there (.there .here)) | exact .there (.there (.there (.there .here)))) ?_ | exact Sub.all)
        refine JAll.cons rfl ?_ JAll.nil
        refine JO.sto rfl rfl (.none rfl) (Es.storeA rfl rfl Tryd.sizeOf90 (by repeat (first | exact .here | apply Upd.there | apply Upd.left)) (by rw [arr32_size, sched_length]) (by first | rfl | exact dig_size _ | (rw [arr8_size]; first | exact sha_length _ | exact shaO_length _ | assumption)) (arr32_one _)) ?_
        refine JA.branch [2] (by kernel_rfl) rfl ?_
        refine JAll.cons rfl ?_ JAll.nil
        refine JO.val rfl rfl rfl (.none rfl) (Ev.loadB rfl (by repeat (first | exact List.Mem.head _ | refine List.Mem.tail _ ?_ | refine List.mem_append_right _ ?_ | assumption)) Tryd.underlying78 rfl Tryd.sizeOf78 (by first | rfl | exact dig_size _ | (rw [arr8_size]; first | exact sha_length _ | exact shaO_length _ | assumption))) ?_
        refine JA.branch [6] (by kernel_rfl) rfl ?_
        refine JAll.cons rfl ?_ JAll.nil
        refine JO.sto rfl rfl (.none rfl) (Es.storeA rfl rfl Tryd.sizeOf78 (by repeat (first | exact .here | apply Upd.there | apply Upd.left)) (by first | rfl | exact dig_size _ | (rw [arr8_size]; first | exact sha_length _ | exact shaO_length _ | assumption)) (by first | rfl | exact dig_size _ | (rw [arr8_size]; first | exact sha_length _ | exact shaO_length _ | assumption)) (arr32_one _)) ?_
        refine JA.done (by kernel_rfl) ?_
        refine JQ.cutN (b5, b6) ?_ ?_
        · exact Keeps.get (by repeat (first | exact Keeps.nil | refine Keeps.cons rfl ?_))
        · first | exact Sub.all | exact Sub.of_cnt (fun a => by (try dsimp only); simp only [cntA]; omega) | repeat (first | exact Sub.nil | refine Sub.cons (by first | exact .here | exact .there .here | exact .there (.there .here) | exact .there (.there (.there .here)) | exact .there (.there (.there (.there .here)))) ?_ | exact Sub.all)
      refine JAll.cons rfl ?_ JAll.nil
      refine JO.val rfl rfl rfl (.none rfl) (Ev.loadB rfl (by repeat (first | exact List.Mem.head _ | refine List.Mem.tail _ ?_ | refine List.mem_append_right _ ?_ | assumption)) Tryd.underlying78 rfl Tryd.sizeOf78 (by first | rfl | exact dig_size _ | (rw [arr8_size]; first | exact sha_length _ | exact shaO_length _ | assumption))) ?_
      refine JA.branch [1] (by kernel_rfl) rfl ?_
      refine JAll.cons rfl ?_ JAll.nil
      refine JO.callV rfl (.none rfl) rfl Tryd.call56 (fun w1 hw1 => spread_any a cap l w1 (hm.old hw1) hl hc) ?_
      refine JA.branch [5] (by kernel_rfl) rfl ?_
      refine JAll.cons rfl ?_ JAll.nil
      refine JO.sto rfl rfl (.none rfl) (Es.storeA rfl rfl Tryd.sizeOf90 (by repeat (first | exact .here | apply Upd.there | apply Upd.left)) (by rw [arr32_size, sched_length]) (by first | rfl | exact dig_size _ | (rw [arr8_size]; first | exact sha_length _ | exact shaO_length _ | assumption)) (arr32_one _)) ?_
      refine JA.branch [6] (by kernel_rfl) rfl ?_
      refine JAll.cons rfl ?_ JAll.nil
      refine JO.sto rfl rfl (.none rfl) (Es.storeA rfl rfl Tryd.sizeOf78 (by repeat (first | exact .here | apply Upd.there | apply Upd.left)) (by first | rfl | exact dig_size _ | (rw [arr8_size]; first | exact sha_length _ | exact shaO_length _ | assumption)) (by first | rfl | exact dig_size _ | (rw [arr8_size]; first | exact sha_length _ | exact shaO_length _ | assumption)) (arr32_one _)) ?_
      refine JA.done (by kernel_rfl) ?_
      refine JQ.cutN (b5, b6) ?_ ?_
      · exact Keeps.get (by repeat (first | exact Keeps.nil | refine Keeps.cons rfl ?_))
      · first | exact Sub.all | exact Sub.of_cnt (fun a => by (try dsimp only); simp only [cntA]; omega) | repeat (first | exact Sub.nil | refine Sub.cons (by first | exact .here | exact .there .here | exact .there (.there .here) | exact .there (.there (.there .here)) | exact .there (.there (.there (.there .here)))) ?_ | exact Sub.all)
    refine JAll.cons rfl ?_ JAll.nil
    refine JO.new rfl rfl rfl (.none rfl) (En.allocZ (cs := arr32 (List.replicate 8 0)) Tryd.zeroValue78 rfl) (fun b6 hb6 => ?_)
    refine JA.branch [1, 2, 3] (by kernel_rfl) rfl ?_
    refine JAll.cons rfl ?_ ?_
    · -- 1
      refine JO.callV rfl (.none rfl) rfl Tryd.call56 (fun w1 hw1 => spread_any a cap l w1 (hm.old hw1) hl hc) ?_
      refine JA.branch [2, 3] (by kernel_rfl) rfl ?_
      refine JAll.cons rfl ?_ ?_
      · -- 2
        refine JO.val rfl rfl rfl (.none rfl) (Ev.loadB rfl (by repeat (first | exact List.Mem.head _ | refine List.Mem.tail _ ?_ | refine List.mem_append_right _ ?_ | assumption)) Tryd.underlying78 rfl Tryd.sizeOf78 (by first | rfl | exact dig_size _ | (rw [arr8_size]; first | exact sha_length _ | exact shaO_length _ | assumption))) ?_
        refine JA.branch [3] (by kernel_rfl) rfl ?_
        refine JAll.cons rfl ?_ JAll.nil
        refine JO.new rfl rfl rfl (.none rfl) (En.allocZ (cs := arr32 (List.replicate 64 0)) Tryd.zeroValue90 rfl) (fun b5 hb5 => ?_)
        refine JA.branch [5] (by kernel_rfl) rfl ?_
        refine JAll.cons rfl ?_ JAll.nil
        refine JO.sto rfl rfl (.none rfl) (Es.storeA rfl rfl Tryd.sizeOf90 (by repeat (first | exact .here | apply Upd.there | apply Upd.left)) (by rw [arr32_size, sched_length]) (by first | rfl | exact dig_size _ | (rw [arr8_size]; first | exact sha_length _ | exact shaO_length _ | assumption)) (arr32_one _)) ?_
        refine JA.branch [6] (by kernel_rfl) rfl ?_
        refine JAll.cons rfl ?_ JAll.nil
        refine JO.sto rfl rfl (.none rfl) (Es.storeA rfl rfl Tryd.sizeOf78 (by repeat (first | exact .here | apply Upd.there | apply Upd.left)) (by first | rfl | exact dig_size _ | (rw [arr8_size]; first | exact sha_length _ | exact shaO_length _ | assumption)) (by first | rfl | exact dig_size _ | (rw [arr8_size]; first | exact sha_length _ | exact shaO_length _ | assumption)) (arr32_one _)) ?_
        refine JA.done (by kernel_rfl) ?_
        refine JQ.cutN (b5, b6) ?_ ?_
        · exact Keeps.get (by repeat (first | exact Keeps.nil | refine Keeps.cons rfl ?_))
        · first | exact Sub.all | exact Sub.of_cnt (fun a => by (try dsimp only); simp only [cntA]; omega) | repeat (first | exact Sub.nil | refine Sub.cons (by first | exact .here | exact .there .here | exact .there (.there .here) | exact .there (.there (.there .here)) | exact .there (.there (.there (.there .here)))) ?_ | exact Sub.all)
      refine JAll.cons rfl ?_ JAll.nil
      refine JO.new rfl rfl rfl (.none rfl) (En.allocZ (cs := arr32 (List.replicate 64 0)) Tryd.zeroValue90 rfl) (fun b5 hb5 => ?_)
      refine JA.branch [2, 5] (by kernel_rfl) rfl ?_
      refine JAll.cons rfl ?_ ?_
      · -- 2
        refine JO.val rfl rfl rfl (.none rfl) (Ev.loadB rfl (by repeat (first | exact List.Mem.head _ | refine List.Mem.tail _ ?_ | refine List.mem_append_right _ ?_ | assumption)) Tryd.underlying78 rfl Tryd.sizeOf78 (by first | rfl | exact dig_size _ | (rw [arr8_size]; first | exact sha_length _ | exact shaO_length _ | assumption))) ?_
        refine JA.branch [5] (by kernel_rfl) rfl ?_
        refine JAll.cons rfl ?_ JAll.nil
        refine JO.sto rfl rfl (.none rfl) (Es.storeA rfl rfl Tryd.sizeOf90 (by repeat (first | exact .here | apply Upd.there | apply Upd.left)) (by rw [arr32_size, sched_length]) (by first | rfl | exact dig_size _ | (rw [arr8_size]; first | exact sha_length _ | exact shaO_length _ | assumption)) (arr32_one _)) ?_
        refine JA.branch [6] (by kernel_rfl) rfl ?_
        refine JAll.cons rfl ?_ JAll.nil
        refine JO.sto rfl rfl (.none rfl) (Es.storeA rfl rfl Tryd.sizeOf78 (by repeat (first | exact .here | apply Upd.there | apply Upd.left)) (by first | rfl | exact dig_size _ | (rw [arr8_size]; first | exact sha_length _ | exact shaO_length _ | assumption)) (by first | rfl | exact dig_size _ | (rw [arr8_size]; first | exact sha_length _ | exact shaO_length _ | assumption)) (arr32_one _)) ?_
        refine JA.done (by kernel_rfl) ?_
        refine JQ.cutN (b5, b6) ?_ ?_
        · exact Keeps.get (by repeat (first | exact Keeps.nil | refine Keeps.cons rfl ?_))
        · first | exact Sub.all | exact Sub.of_cnt (fun a => by (try dsimp only); simp only [cntA]; omega) | repeat (first | exact Sub.nil | refine Sub.cons (by first | exact .here | exact .there .here | exact .there (.there .here) | exact .there (.there (.there .here)) | exact .there (.there (.there (.there .here)))) ?_ | exact Sub.all)
      refine JAll.cons rfl ?_ JAll.nil
      refine JO.sto rfl rfl (.none rfl) (Es.storeA rfl rfl Tryd.sizeOf90 (by repeat (first | exact .here | apply Upd.there | apply Upd.left)) (by rw [arr32_size, sched_length]) (by first | rfl | exact dig_size _ | (rw [arr8_size]; first | exact sha_length _ | exact shaO_length _ | assumption)) (arr32_one _)) ?_
      refine JA.branch [2] (by kernel_rfl) rfl ?_
      refine JAll.cons rfl ?_ JAll.nil
      refine JO.val rfl rfl rfl (.none rfl) (Ev.loadB rfl (by repeat (first | exact List.Mem.head _ | refine List.Mem.tail _ ?_ | refine List.mem_append_right _ ?_ | assumption)) Tryd.underlying78 rfl Tryd.sizeOf78 (by first | rfl | exact dig_size _ | (rw [arr8_size]; first | exact sha_length _ | exact shaO_length _ | assumption))) ?_
      refine JA.branch [6] (by kernel_rfl) rfl ?_
      refine JAll.cons rfl ?_ JAll.nil
      refine JO.sto rfl rfl (.none rfl) (Es.storeA rfl rfl Tryd.sizeOf78 (by repeat (first | exact .here | apply Upd.there | apply Upd.left)) (by first | rfl | exact dig_size _ | (rw [arr8_size]; first | exact sha_length _ | exact shaO_length _ | assumption)) (by first | rfl | exact dig_size _ | (rw [arr8_size]; first | exact sha_length _ | exact shaO_length _ | assumption)) (arr32_one _)) ?_
      refine JA.done (by kernel_rfl) ?_
      refine JQ.cutN (b5, b6) ?_ ?_
      · exact Keeps.get (by repeat (first | exact Keeps.nil | refine Keeps.cons rfl ?_))
      · first | exact Sub.all | exact Sub.of_cnt (fun a => by (try dsimp only); simp only [cntA]; omega) | repeat (first | exact Sub.nil | refine Sub.cons (by first | exact .here | exact .there .here | exact .there (.there .here) | exact .there (.there (.there .here)) | exact .there (.there (.there (.there .here)))) ?_ | exact Sub.all)
    refine JAll.cons rfl ?_ ?_
    · -- 2
      refine JO.val rfl rfl rfl (.none rfl) (Ev.loadB rfl (by repeat (first | exact List.Mem.head _ | refine List.Mem.tail _ ?_ | refine List.mem_append_right _ ?_ | assumption)) Tryd.underlying78 rfl Tryd.sizeOf78 (by first | rfl | exact dig_size _ | (rw [arr8_size]; first | exact sha_length _ | exact shaO_length _ | assumption))) ?_
      refine JA.branch [1, 3] (by kernel_rfl) rfl ?_
      refine JAll.cons rfl ?_ ?_
      · -- 1
        refine JO.callV rfl (.none rfl) rfl Tryd.call56 (fun w1 hw1 => spread_any a cap l w1 (hm.old hw1) hl hc) ?_
        refine JA.branch [3] (by kernel_rfl) rfl ?_
        refine JAll.cons rfl ?_ JAll.nil
        refine JO.new rfl rfl rfl (.none rfl) (En.allocZ (cs := arr32 (List.replicate 64 0)) Tryd.zeroValue90 rfl) (fun b5 hb5 => ?_)
        refine JA.branch [5] (by kernel_rfl) rfl ?_
        refine JAll.cons rfl ?_ JAll.nil
        refine JO.sto rfl rfl (.none rfl) (Es.storeA rfl rfl Tryd.sizeOf90 (by repeat (first | exact .here | apply Upd.there | apply Upd.left)) (by rw [arr32_size, sched_length]) (by first | rfl | exact dig_size _ | (rw [arr8_size]; first | exact sha_length _ | exact shaO_length _ | assumption)) (arr32_one _)) ?_
        refine JA.branch [6] (by kernel_rfl) rfl ?_
        refine JAll.cons rfl ?_ JAll.nil
        refine JO.sto rfl rfl (.none rfl) (Es.storeA rfl rfl Tryd.sizeOf78 (by repeat (first | exact .here | apply Upd.there | apply Upd.left)) (by first | rfl | exact dig_size _ | (rw [arr8_size]; first | exact sha_length _ | exact shaO_length _ | assumption)) (by first | rfl | exact dig_size _ | (rw [arr8_size]; first | exact sha_length _ | exact shaO_length _ | assumption)) (arr32_one _)) ?_
        refine JA.done (by kernel_rfl) ?_
        refine JQ.cutN (b5, b6) ?_ ?_
        · exact Keeps.get (by repeat (first | exact Keeps.nil | refine Keeps.cons rfl ?_))
        · first | exact Sub.all | exact Sub.of_cnt (fun a => by (try dsimp only); simp only [cntA]; omega) | repeat (first | exact Sub.nil | refine Sub.cons (by first | exact .here | exact .there .here | exact .there (.there .here) | exact .there (.there (.there .here)) | exact .there (.there (.there (.there .here)))) ?_ | exact Sub.all)
      refine JAll.cons rfl ?_ JAll.nil
      refine JO.new rfl rfl rfl (.none rfl) (En.allocZ (cs := arr32 (List.replicate 64 0)) Tryd.zeroValue90 rfl) (fun b5 hb5 => ?_)
      refine JA.branch [1] (by kernel_rfl) rfl ?_
      refine JAll.cons rfl ?_ JAll.nil
      refine JO.callV rfl (.none rfl) rfl Tryd.call56 (fun w1 hw1 => spread_any a cap l w1 (hm.old hw1) hl hc) ?_
      refine JA.branch [5] (by kernel_rfl) rfl ?_
      refine JAll.cons rfl ?_ JAll.nil
      refine JO.sto rfl rfl (.none rfl) (Es.storeA rfl rfl Tryd.sizeOf90 (by repeat (first | exact .here | apply Upd.there | apply Upd.left)) (by rw [arr32_size, sched_length]) (by first | rfl | exact dig_size _ | (rw [arr8_size]; first | exact sha_length _ | exact shaO_length _ | assumption)) (arr32_one _)) ?_
      refine JA.branch [6] (by kernel_rfl) rfl ?_
      refine JAll.cons rfl ?_ JAll.nil
      refine JO.sto rfl rfl (.none rfl) (Es.storeA rfl rfl Tryd.sizeOf78 (by repeat (first | exact .here | apply Upd.there | apply Upd.left)) (by first | rfl | exact dig_size _ | (rw [arr8_size]; first | exact sha_length _ | exact shaO_length _ | assumption)) (by first | rfl | exact dig_size _ | (rw [arr8_size]; first | exact sha_length _ | exact shaO_length _ | assumption)) (arr32_one _)) ?_
      refine JA.done (by kernel_rfl) ?_
      refine JQ.cutN (b5, b6) ?_ ?_
      · exact Keeps.get (by repeat (first | exact Keeps.nil | refine Keeps.cons rfl ?_))
      · first | exact Sub.all | exact Sub.of_cnt (fun a => by (try dsimp only); simp only [cntA]; omega) | repeat (first | exact Sub.nil | refine Sub.cons (by first | exact .here | exact .there .here | exact .there (.there .here) | exact .there (.there (.there .here)) | exact .there (.there (.there (.there .here)))) ?_ | exact Sub.all)
    refine JAll.cons rfl ?_ JAll.nil
    refine JO.new rfl rfl rfl (.none rfl) (En.allocZ (cs := arr32 (List.replicate 64 0)) Tryd.zeroValue90 rfl) (fun b5 hb5 => ?_)
    refine JA.branch [1, 2] (by kernel_rfl) rfl ?_
    refine JAll.cons rfl ?_ ?_
    · -- 1
      refine JO.callV rfl (.none rfl) rfl Tryd.call56 (fun w1 hw1 => spread_any a cap l w1 (hm.old hw1) hl hc) ?_
      refine JA.branch [2, 5] (by kernel_rfl) rfl ?_
      refine JAll.cons rfl ?_ ?_
      · -- 2
        refine JO.val rfl rfl rfl (.none rfl) (Ev.loadB rfl (by repeat (first | exact List.Mem.head _ | refine List.Mem.tail _ ?_ | refine List.mem_append_right _ ?_ | assumption)) Tryd.underlying78 rfl Tryd.sizeOf78 (by first | rfl | exact dig_size _ | (rw [arr8_size]; first | exact sha_length _ | exact shaO_length _ | assumption))) ?_
        refine JA.branch [5] (by kernel_rfl) rfl ?_
        refine JAll.cons rfl ?_ JAll.nil
        refine JO.sto rfl rfl (.none rfl) (Es.storeA rfl rfl Tryd.sizeOf90 (by repeat (first | exact .here | apply Upd.there | apply Upd.left)) (by rw [arr32_size, sched_length]) (by first | rfl | exact dig_size _ | (rw [arr8_size]; first | exact sha_length _ | exact shaO_length _ | assumption)) (arr32_one _)) ?_
        refine JA.branch [6] (by kernel_rfl) rfl ?_
        refine JAll.cons rfl ?_ JAll.nil
        refine JO.sto rfl rfl (.none rfl) (Es.storeA rfl rfl Tryd.sizeOf78 (by repeat (first | exact .here | apply Upd.there | apply Upd.left)) (by first | rfl | exact dig_size _ | (rw [arr8_size]; first | exact sha_length _ | exact shaO_length _ | assumption)) (by first | rfl | exact dig_size _ | (rw [arr8_size]; first | exact sha_length _ | exact shaO_length _ | assumption)) (arr32_one _)) ?_
        refine JA.done (by kernel_rfl) ?_
        refine JQ.cutN (b5, b6) ?_ ?_
        · exact Keeps.get (by repeat (first | exact Keeps.nil | refine Keeps.cons rfl ?_))
        · first | exact Sub.all | exact Sub.of_cnt (fun a => by (try dsimp only); simp only [cntA]; omega) | repeat (first | exact Sub.nil | refine Sub.cons (by first | exact .here | exact .there .here | exact .there (.there .here) | exact .there (.there (.there .here)) | exact .there (.there (.there (.there .here)))) ?_ | exact Sub.all)
      refine JAll.cons rfl ?_ JAll.nil
      refine JO.sto rfl rfl (.none rfl) (Es.storeA rfl rfl Tryd.sizeOf90 (by repeat (first | exact .here | apply Upd.there | apply Upd.left)) (by rw [arr32_size, sched_length]) (by first | rfl | exact dig_size _ | (rw [arr8_size]; first | exact sha_length _ | exact shaO_length _ | assumption)) (arr32_one _)) ?_
      refine JA.branch [2] (by kernel_rfl) rfl ?_
      refine JAll.cons rfl ?_ JAll.nil
      refine JO.val rfl rfl rfl (.none rfl) (Ev.loadB rfl (by repeat (first | exact List.Mem.head _ | refine List.Mem.tail _ ?_ | refine List.mem_append_right _ ?_ | assumption)) Tryd.underlying78 rfl Tryd.sizeOf78 (by first | rfl | exact dig_size _ | (rw [arr8_size]; first | exact sha_length _ | exact shaO_length _ | assumption))) ?_
      refine JA.branch [6] (by kernel_rfl) rfl ?_
      refine JAll.cons rfl ?_ JAll.nil
      refine JO.sto rfl rfl (.none rfl) (Es.storeA rfl rfl Tryd.sizeOf78 (by repeat (first | exact .here | apply Upd.there | apply Upd.left)) (by first | rfl | exact dig_size _ | (rw [arr8_size]; first | exact sha_length _ | exact shaO_length _ | assumption)) (by first | rfl | exact dig_size _ | (rw [arr8_size]; first | exact sha_length _ | exact shaO_length _ | assumption)) (arr32_one _)) ?_
      refine JA.done (by kernel_rfl) ?_
      refine JQ.cutN (b5, b6) ?_ ?_
      · exact Keeps.get (by repeat (first | exact Keeps.nil | refine Keeps.cons rfl ?_))
      · first | exact Sub.all | exact Sub.of_cnt (fun a => by (try dsimp only); simp only [cntA]; omega) | repeat (first | exact Sub.nil | refine Sub.cons (by first | exact .here | exact .there .here | exact .there (.there .here) | exact .there (.there (.there .here)) | exact .there (.there (.there (.there .here)))) ?_ | exact Sub.all)
    refine JAll.cons rfl ?_ JAll.nil
    refine JO.val rfl rfl rfl (.none rfl) (Ev.loadB rfl (by repeat (first | exact List.Mem.head _ | refine List.Mem.tail _ ?_ | refine List.mem_append_right _ ?_ | assumption)) Tryd.underlying78 rfl Tryd.sizeOf78 (by first | rfl | exact dig_size _ | (rw [arr8_size]; first | exact sha_length _ | exact shaO_length _ | assumption))) ?_
    refine JA.branch [1] (by kernel_rfl) rfl ?_
    refine JAll.cons rfl ?_ JAll.nil
    refine JO.callV rfl (.none rfl) rfl Tryd.call56 (fun w1 hw1 => spread_any a cap l w1 (hm.old hw1) hl hc) ?_
    refine JA.branch [5] (by kernel_rfl) rfl ?_
    refine JAll.cons rfl ?_ JAll.nil
    refine JO.sto rfl rfl (.none rfl) (Es.storeA rfl rfl Tryd.sizeOf90 (by repeat (first | exact .here | apply Upd.there | apply Upd.left)) (by rw [arr32_size, sched_length]) (by first | rfl | exact dig_size _ | (rw [arr8_size]; first | exact sha_length _ | exact shaO_length _ | assumption)) (arr32_one _)) ?_
    refine JA.branch [6] (by kernel_rfl) rfl ?_
    refine JAll.cons rfl ?_ JAll.nil
    refine JO.sto rfl rfl (.none rfl) (Es.storeA rfl rfl Tryd.sizeOf78 (by repeat (first | exact .here | apply Upd.there | apply Upd.left)) (by first | rfl | exact dig_size _ | (rw [arr8_size]; first | exact sha_length _ | exact shaO_length _ | assumption)) (by first | rfl | exact dig_size _ | (rw [arr8_size]; first | exact sha_length _ | exact shaO_length _ | assumption)) (arr32_one _)) ?_
    refine JA.done (by kernel_rfl) ?_
    refine JQ.cutN (b5, b6) ?_ ?_
    · exact Keeps.get (by repeat (first | exact Keeps.nil | refine Keeps.cons rfl ?_))
    · first | exact Sub.all | exact Sub.of_cnt (fun a => by (try dsimp only); simp only [cntA]; omega) | repeat (first | exact Sub.nil | refine Sub.cons (by first | exact .here | exact .there .here | exact .there (.there .here) | exact .there (.there (.there .here)) | exact .there (.there (.there (.there .here)))) ?_ | exact Sub.all)
  rintro ⟨b5, b6⟩
  refine JQ.thenN ?_
  refine JC.seq ?_
  refine JC.seq ?_
  -- region 2
  refine JC.region ?_
  refine JL.val rfl rfl rfl (.none rfl) (Ev.move rfl) ?_
  refine JL.nil ?_
  refine JQ.thenN ?_
  refine JC.block ?_
  refine JC.loop (X := Nat)
    (fun k => [(2, .pointer (some ⟨b2, 0, none⟩)), (4, .pointer (some ⟨b4, 0, none⟩)), (5, .pointer (some ⟨b5, 0, none⟩)), (6, .pointer (some ⟨b6, 0, none⟩)), (16, .int .i64 (k : Int))])
    (fun k => [(b6, .cells (arr32 (rounds s l k).l) 78 (0, 0)), (b5, .cells (arr32 (sched l 64)) 90 (0, 0)), (b4, .cells (arr32 (List.replicate 8 0)) 78 (0, 0)), (b2, .cells (arr32 s.l) 78 (0, 0))])
    (fun k => k ≤ 64)
    (fun k => 64 - k) 0 ?_ ?_ ?_ ?_
  · exact Keeps.get (by repeat (first | exact Keeps.nil | refine Keeps.cons rfl ?_))
  · first | exact Sub.all | exact Sub.of_cnt (fun a => by (try dsimp only); simp only [cntA]; omega) | repeat (first | exact Sub.nil | refine Sub.cons (by first | exact .here | exact .there .here | exact .there (.there .here) | exact .there (.there (.there .here)) | exact .there (.there (.there (.there .here)))) ?_ | exact Sub.all)
  · omega
  rintro k hk64
  refine JC.seq ?_
  -- region 3
  refine JC.region ?_
  refine JL.val rfl rfl rfl (.none rfl) (Ev.bin rfl rfl lss_int) ?_
  refine JL.nil ?_
  refine JQ.thenN ?_
  refine JC.seq ?_
  refine JC.cond rfl (fun hc1 => ?_) (fun hc1 => ?_)
  · -- t17 True
    replace hc1 := of_decide_eq_true hc1
    refine JC.skip ?_
    refine JQ.thenN ?_
    refine JC.seq ?_
    refine JC.block ?_
    refine JC.seq ?_
    -- region 4
    refine JC.region ?_
    refine JL.val rfl rfl rfl (.none rfl) (Ev.move rfl) ?_
    refine JL.val rfl rfl rfl (.none rfl) (Ev.assign rfl) ?_
    refine JL.nil ?_
    refine JQ.thenN ?_
    refine JC.seq ?_
    -- region 5
    refine JC.regionQ (by kernel_rfl) (by kernel_rfl) ?_
    refine JW.val rfl rfl (.none rfl) (Ev.idxB1 (k := 0) rfl rfl Tryd.underlying78 Tryd.sizeOf77 rfl (by omega)) ?_
    refine JW.val rfl rfl (.none rfl) (Ev.load1 rfl Tryd.underlying77 rfl (Rd.own (by repeat (first | exact List.Mem.head _ | refine List.Mem.tail _ ?_ | refine List.mem_append_right _ ?_ | assumption)) rfl)) ?_
    refine JW.val rfl rfl (.none rfl) (Ev.idxB1 (k := 4) rfl rfl Tryd.underlying78 Tryd.sizeOf77 rfl (by omega)) ?_
    refine JW.val rfl rfl (.none rfl) (Ev.load1 rfl Tryd.underlying77 rfl (Rd.own (by repeat (first | exact List.Mem.head _ | refine List.Mem.tail _ ?_ | refine List.mem_append_right _ ?_ | assumption)) rfl)) ?_
    refine JW.val rfl rfl (.none rfl) (Ev.assign rfl) ?_
    refine JW.val rfl rfl (.none rfl) (Ev.assign rfl) ?_
    refine JW.nilQ ?_
    refine JQ.thenN ?_
    refine JC.seq ?_
    -- region 6
    refine JC.regionQ (by kernel_rfl) (by kernel_rfl) ?_
    refine JW.val rfl rfl (.none rfl) (Ev.idxB1 (k := 7) rfl rfl Tryd.underlying78 Tryd.sizeOf77 rfl (by omega)) ?_
    refine JW.val rfl rfl (.none rfl) (Ev.load1 rfl Tryd.underlying77 rfl (Rd.own (by repeat (first | exact List.Mem.head _ | refine List.Mem.tail _ ?_ | refine List.mem_append_right _ ?_ | assumption)) rfl)) ?_
    refine JW.val rfl rfl (.none rfl) (Ev.move rfl) ?_
    refine JW.call rfl (.none rfl) rfl Tryd.call57 (fun w1 hw1 => right_any _ 6 (by decide) (by decide) w1) ?_
    refine JW.val rfl rfl (.none rfl) (Ev.move rfl) ?_
    refine JW.call rfl (.none rfl) rfl Tryd.call57 (fun w1 hw1 => right_any _ 11 (by decide) (by decide) w1) ?_
    refine JW.val rfl rfl (.none rfl) (Ev.bin rfl rfl xor_u32) ?_
    refine JW.val rfl rfl (.none rfl) (Ev.move rfl) ?_
    refine JW.call rfl (.none rfl) rfl Tryd.call57 (fun w1 hw1 => right_any _ 25 (by decide) (by decide) w1) ?_
    refine JW.val rfl rfl (.none rfl) (Ev.bin rfl rfl xor_u32) ?_
    refine JW.val rfl rfl (.none rfl) (Ev.bin rfl rfl add_u32) ?_
    refine JW.val rfl rfl (.none rfl) (Ev.idxB1 (k := 6) rfl rfl Tryd.underlying78 Tryd.sizeOf77 rfl (by omega)) ?_
    refine JW.val rfl rfl (.none rfl) (Ev.load1 rfl Tryd.underlying77 rfl (Rd.own (by repeat (first | exact List.Mem.head _ | refine List.Mem.tail _ ?_ | refine List.mem_append_right _ ?_ | assumption)) rfl)) ?_
    refine JW.val rfl rfl (.none rfl) (Ev.move rfl) ?_
    refine JW.val rfl rfl (.none rfl) (Ev.idxB1 (k := 5) rfl rfl Tryd.underlying78 Tryd.sizeOf77 rfl (by omega)) ?_
    refine JW.val rfl rfl (.none rfl) (Ev.load1 rfl Tryd.underlying77 rfl (Rd.own (by repeat (first | exact List.Mem.head _ | refine List.Mem.tail _ ?_ | refine List.mem_append_right _ ?_ | assumption)) rfl)) ?_
    refine JW.val rfl rfl (.none rfl) (Ev.idxB1 (k := 6) rfl rfl Tryd.underlying78 Tryd.sizeOf77 rfl (by omega)) ?_
    refine JW.val rfl rfl (.none rfl) (Ev.load1 rfl Tryd.underlying77 rfl (Rd.own (by repeat (first | exact List.Mem.head _ | refine List.Mem.tail _ ?_ | refine List.mem_append_right _ ?_ | assumption)) rfl)) ?_
    refine JW.val rfl rfl (.none rfl) (Ev.bin rfl rfl xor_u32) ?_
    refine JW.val rfl rfl (.none rfl) (Ev.bin rfl rfl and_u32) ?_
    refine JW.val rfl rfl (.none rfl) (Ev.bin rfl rfl xor_u32) ?_
    refine JW.val rfl rfl (.none rfl) (Ev.bin rfl rfl add_u32) ?_
    refine JW.val rfl rfl (.none rfl) (Ev.move rfl) ?_
    refine JW.val rfl rfl (.none rfl) (Ev.idxB1 rfl rfl Tryd.underlying90 Tryd.sizeOf77 (k := k) rfl (by omega)) ?_
    refine JW.val rfl rfl (.none rfl) (Ev.load1 rfl Tryd.underlying77 rfl (Rd.old (hk.at (by omega)))) ?_
    refine JW.val rfl rfl (.none rfl) (Ev.bin rfl rfl add_u32) ?_
    refine JW.val rfl rfl (.none rfl) (Ev.move rfl) ?_
    refine JW.val rfl rfl (.none rfl) (Ev.idxB1 rfl rfl Tryd.underlying90 Tryd.sizeOf77 (k := k) rfl (by omega)) ?_
    refine JW.val rfl rfl (.none rfl) (Ev.load1 rfl Tryd.underlying77 rfl (Rd.own (by repeat (first | exact List.Mem.head _ | refine List.Mem.tail _ ?_ | refine List.mem_append_right _ ?_ | assumption)) (sched_at l (by omega)))) ?_
    refine JW.val rfl rfl (.none rfl) (Ev.bin rfl rfl add_u32) ?_
    refine JW.val rfl rfl (.none rfl) (Ev.assign rfl) ?_
    refine JW.nilQ ?_
    refine JQ.thenN ?_
    refine JC.seq ?_
    -- region 7
    refine JC.regionQ (by kernel_rfl) (by kernel_rfl) ?_
    refine JW.val rfl rfl (.none rfl) (Ev.move rfl) ?_
    refine JW.call rfl (.none rfl) rfl Tryd.call57 (fun w1 hw1 => right_any _ 2 (by decide) (by decide) w1) ?_
    refine JW.val rfl rfl (.none rfl) (Ev.move rfl) ?_
    refine JW.call rfl (.none rfl) rfl Tryd.call57 (fun w1 hw1 => right_any _ 13 (by decide) (by decide) w1) ?_
    refine JW.val rfl rfl (.none rfl) (Ev.bin rfl rfl xor_u32) ?_
    refine JW.val rfl rfl (.none rfl) (Ev.move rfl) ?_
    refine JW.call rfl (.none rfl) rfl Tryd.call57 (fun w1 hw1 => right_any _ 22 (by decide) (by decide) w1) ?_
    refine JW.val rfl rfl (.none rfl) (Ev.bin rfl rfl xor_u32) ?_
    refine JW.val rfl rfl (.none rfl) (Ev.move rfl) ?_
    refine JW.val rfl rfl (.none rfl) (Ev.idxB1 (k := 1) rfl rfl Tryd.underlying78 Tryd.sizeOf77 rfl (by omega)) ?_
    refine JW.val rfl rfl (.none rfl) (Ev.load1 rfl Tryd.underlying77 rfl (Rd.own (by repeat (first | exact List.Mem.head _ | refine List.Mem.tail _ ?_ | refine List.mem_append_right _ ?_ | assumption)) rfl)) ?_
    refine JW.val rfl rfl (.none rfl) (Ev.idxB1 (k := 2) rfl rfl Tryd.underlying78 Tryd.sizeOf77 rfl (by omega)) ?_
    refine JW.val rfl rfl (.none rfl) (Ev.load1 rfl Tryd.underlying77 rfl (Rd.own (by repeat (first | exact List.Mem.head _ | refine List.Mem.tail _ ?_ | refine List.mem_append_right _ ?_ | assumption)) rfl)) ?_
    refine JW.val rfl rfl (.none rfl) (Ev.bin rfl rfl or_u32) ?_
    refine JW.val rfl rfl (.none rfl) (Ev.bin rfl rfl and_u32) ?_
    refine JW.val rfl rfl (.none rfl) (Ev.idxB1 (k := 1) rfl rfl Tryd.underlying78 Tryd.sizeOf77 rfl (by omega)) ?_
    refine JW.val rfl rfl (.none rfl) (Ev.load1 rfl Tryd.underlying77 rfl (Rd.own (by repeat (first | exact List.Mem.head _ | refine List.Mem.tail _ ?_ | refine List.mem_append_right _ ?_ | assumption)) rfl)) ?_
    refine JW.val rfl rfl (.none rfl) (Ev.idxB1 (k := 2) rfl rfl Tryd.underlying78 Tryd.sizeOf77 rfl (by omega)) ?_
    refine JW.val rfl rfl (.none rfl) (Ev.load1 rfl Tryd.underlying77 rfl (Rd.own (by repeat (first | exact List.Mem.head _ | refine List.Mem.tail _ ?_ | refine List.mem_append_right _ ?_ | assumption)) rfl)) ?_
    refine JW.val rfl rfl (.none rfl) (Ev.bin rfl rfl and_u32) ?_
    refine JW.val rfl rfl (.none rfl) (Ev.bin rfl rfl or_u32) ?_
    refine JW.val rfl rfl (.none rfl) (Ev.bin rfl rfl add_u32) ?_
    refine JW.val rfl rfl (.none rfl) (Ev.assign rfl) ?_
    refine JW.nilQ ?_
    refine JQ.thenN ?_
    refine JC.seq ?_
    -- region 8
    refine JC.regionT 2 (by kernel_rfl) (by kernel_rfl) (List.take_append_drop 2 _).symm rfl ?_
    refine JW.val rfl rfl (.none rfl) (Ev.sliceALo rfl rfl Tryd.underlying78 Tryd.sizeOf77 (l := 1) rfl (by omega)) ?_
    refine JW.val rfl rfl (.none rfl) (Ev.sliceAHi rfl rfl Tryd.underlying78 Tryd.sizeOf77 (h := 7) rfl (by omega)) ?_
    refine JW.tail ?_
    refine JL.gen rfl rfl rfl (.none rfl) (Eg.copy (b := b6) (n := 7) (o := 1) (l := ((rounds s l k).l.take 7).map u32) rfl rfl Tryd.underlying93 Tryd.sizeOf77 (by repeat (first | exact .here | apply Upd.there | apply Upd.left)) rfl rfl (Rds.own (by repeat (first | exact List.Mem.head _ | refine List.Mem.tail _ ?_ | refine List.mem_append_right _ ?_ | assumption)) (arr32_pre _ 7)) (by show 8 ≤ 8; omega) (fun u hu => arr32_one _ u (List.mem_of_mem_take (by simpa [arr32, List.map_take] using hu)))) ?_
    rintro _ _ ⟨rfl, rfl⟩
    refine JL.reH (o' := .cells (arr32 [(rounds s l k).a, (rounds s l k).a, (rounds s l k).b, (rounds s l k).c, (rounds s l k).d, (rounds s l k).e, (rounds s l k).f, (rounds s l k).g]) 78 (0, 0)) .here rfl ?_
    refine JL.nil ?_
    refine JQ.thenN ?_
    refine JC.seq ?_
    -- region 9
    refine JC.region ?_
    refine JL.val rfl rfl rfl (.none rfl) (Ev.idxB1 (k := 4) rfl rfl Tryd.underlying78 Tryd.sizeOf77 rfl (by omega)) ?_
    refine JL.val rfl rfl rfl (.none rfl) (Ev.load1 rfl Tryd.underlying77 rfl (Rd.own (by repeat (first | exact List.Mem.head _ | refine List.Mem.tail _ ?_ | refine List.mem_append_right _ ?_ | assumption)) rfl)) ?_
    refine JL.val rfl rfl rfl (.none rfl) (Ev.move rfl) ?_
    refine JL.val rfl rfl rfl (.none rfl) (Ev.bin rfl rfl add_u32) ?_
    refine JL.val rfl rfl rfl (.none rfl) (Ev.idxB1 (k := 4) rfl rfl Tryd.underlying78 Tryd.sizeOf77 rfl (by omega)) ?_
    refine JL.sto rfl rfl (.none rfl) (Es.store1 rfl rfl Tryd.sizeOf77 rfl rfl (by repeat (first | exact .here | apply Upd.there | apply Upd.left)) (by show 4 < 8; omega)) ?_
    refine JL.nil ?_
    refine JQ.thenN ?_
    -- region 10
    refine JC.region ?_
    refine JL.val rfl rfl rfl (.none rfl) (Ev.move rfl) ?_
    refine JL.val rfl rfl rfl (.none rfl) (Ev.move rfl) ?_
    refine JL.val rfl rfl rfl (.none rfl) (Ev.bin rfl rfl add_u32) ?_
    refine JL.val rfl rfl rfl (.none rfl) (Ev.idxB1 (k := 0) rfl rfl Tryd.underlying78 Tryd.sizeOf77 rfl (by omega)) ?_
    refine JL.sto rfl rfl (.none rfl) (Es.store1 rfl rfl Tryd.sizeOf77 rfl rfl (by repeat (first | exact .here | apply Upd.there | apply Upd.left)) (by show 0 < 8; omega)) ?_
    refine JL.nil ?_
    refine JQ.blockN ?_
    refine JQ.thenN ?_
    -- region 11
    refine JC.region ?_
    refine JL.val rfl rfl rfl (.none rfl) (Ev.bin rfl rfl (add_i64 (by omega))) ?_
    refine JL.val rfl rfl rfl (.none rfl) (Ev.move rfl) ?_
    refine JL.nil ?_
    refine JQ.reH (o' := .cells (arr32 (rounds s l (k + 1)).l) 78 (0, 0)) .here rfl ?_
    refine JQ.loopN (k + 1) ?_ ?_ ?_ ?_
    · exact Keeps.get (by repeat (first | exact Keeps.nil | refine Keeps.cons rfl ?_))
    · first | exact Sub.all | exact Sub.of_cnt (fun a => by (try dsimp only); simp only [cntA]; omega) | repeat (first | exact Sub.nil | refine Sub.cons (by first | exact .here | exact .there .here | exact .there (.there .here) | exact .there (.there (.there .here)) | exact .there (.there (.there (.there .here)))) ?_ | exact Sub.all)
    · omega
    · omega
  · -- t17 False
    replace hc1 := of_decide_eq_false hc1
    refine JC.exit ?_
    refine JQ.thenE ?_
    refine JQ.thenE ?_
    refine JQ.blockE ?_
    refine JQ.thenN ?_
    refine JC.seq ?_
    refine JC.seq ?_
    -- region 12
    refine JC.region ?_
    refine JL.val rfl rfl rfl (.none rfl) (Ev.move rfl) ?_
    refine JL.nil ?_
    refine JQ.thenN ?_
    refine JC.block ?_
    obtain rfl : k = 64 := by omega
    refine JC.loop (X := Nat)
      (fun k => [(2, .pointer (some ⟨b2, 0, none⟩)), (4, .pointer (some ⟨b4, 0, none⟩)), (6, .pointer (some ⟨b6, 0, none⟩)), (88, .int .i64 (k : Int))])
      (fun k => [(b6, .cells (arr32 (rounds s l 64).l) 78 (0, 0)), (b4, .cells (arr32 (List.replicate 8 0)) 78 (0, 0)), (b2, .cells (arr32 (addK s (rounds s l 64) k)) 78 (0, 0))])
      (fun k => k ≤ 8)
      (fun k => 8 - k) 0 ?_ ?_ ?_ ?_
    · exact Keeps.get (by repeat (first | exact Keeps.nil | refine Keeps.cons rfl ?_))
    · first | exact Sub.all | exact Sub.of_cnt (fun a => by (try dsimp only); simp only [cntA]; omega) | repeat (first | exact Sub.nil | refine Sub.cons (by first | exact .here | exact .there .here | exact .there (.there .here) | exact .there (.there (.there .here)) | exact .there (.there (.there (.there .here)))) ?_ | exact Sub.all)
    · omega
    rintro k hk8
    refine JC.seq ?_
    -- region 13
    refine JC.region ?_
    refine JL.val rfl rfl rfl (.none rfl) (Ev.bin rfl rfl lss_int) ?_
    refine JL.nil ?_
    refine JQ.thenN ?_
    refine JC.seq ?_
    refine JC.cond rfl (fun hc2 => ?_) (fun hc2 => ?_)
    · -- t89 True
      replace hc2 := of_decide_eq_true hc2
      refine JC.skip ?_
      refine JQ.thenN ?_
      refine JC.seq ?_
      refine JC.block ?_
      refine JC.seq ?_
      -- region 14
      refine JC.region ?_
      refine JL.val rfl rfl rfl (.none rfl) (Ev.move rfl) ?_
      refine JL.val rfl rfl rfl (.none rfl) (Ev.assign rfl) ?_
      refine JL.nil ?_
      refine JQ.thenN ?_
      -- region 15
      refine JC.regionT 8 (by kernel_rfl) (by kernel_rfl) (List.take_append_drop 8 _).symm rfl ?_
      refine JW.val rfl rfl (.none rfl) (Ev.move rfl) ?_
      refine JW.val rfl rfl (.none rfl) (Ev.idxB1 rfl rfl Tryd.underlying78 Tryd.sizeOf77 (k := k) rfl (by omega)) ?_
      refine JW.val rfl rfl (.none rfl) (Ev.load1 rfl Tryd.underlying77 rfl (Rd.own (by repeat (first | exact List.Mem.head _ | refine List.Mem.tail _ ?_ | refine List.mem_append_right _ ?_ | assumption)) (addK_at s _ (by omega)))) ?_
      refine JW.val rfl rfl (.none rfl) (Ev.move rfl) ?_
      refine JW.val rfl rfl (.none rfl) (Ev.idxB1 rfl rfl Tryd.underlying78 Tryd.sizeOf77 (k := k) rfl (by omega)) ?_
      refine JW.val rfl rfl (.none rfl) (Ev.load1 rfl Tryd.underlying77 rfl (Rd.own (by repeat (first | exact List.Mem.head _ | refine List.Mem.tail _ ?_ | refine List.mem_append_right _ ?_ | assumption)) (stl_at _ (by omega)))) ?_
      refine JW.val rfl rfl (.none rfl) (Ev.bin rfl rfl add_u32) ?_
      refine JW.val rfl rfl (.none rfl) (Ev.idxB1 rfl rfl Tryd.underlying78 Tryd.sizeOf77 (k := k) rfl (by omega)) ?_
      refine JW.tail ?_
      refine JL.sto rfl rfl (.none rfl) (Es.store1 rfl rfl Tryd.sizeOf77 rfl rfl (by repeat (first | exact .here | apply Upd.there | apply Upd.left)) (by rw [arr32_size, addK_length _ _ (by omega)]; omega)) ?_
      refine JL.nil ?_
      refine JQ.blockN ?_
      refine JQ.thenN ?_
      -- region 16
      refine JC.region ?_
      refine JL.val rfl rfl rfl (.none rfl) (Ev.bin rfl rfl (add_i64 (by omega))) ?_
      refine JL.val rfl rfl rfl (.none rfl) (Ev.move rfl) ?_
      refine JL.nil ?_
      refine JQ.reH (.there (.there .here)) (congrArg (fun c => Obj.cells c 78 (0, 0)) (addK_set s _ (by omega))) ?_
      refine JQ.loopN (k + 1) ?_ ?_ ?_ ?_
      · exact Keeps.get (by repeat (first | exact Keeps.nil | refine Keeps.cons rfl ?_))
      · first | exact Sub.all | exact Sub.of_cnt (fun a => by (try dsimp only); simp only [cntA]; omega) | repeat (first | exact Sub.nil | refine Sub.cons (by first | exact .here | exact .there .here | exact .there (.there .here) | exact .there (.there (.there .here)) | exact .there (.there (.there (.there .here)))) ?_ | exact Sub.all)
      · omega
      · omega
    · -- t89 False
      replace hc2 := of_decide_eq_false hc2
      refine JC.exit ?_
      refine JQ.thenE ?_
      refine JQ.thenE ?_
      refine JQ.blockE ?_
      refine JQ.thenN ?_
      refine JC.seq ?_
      -- region 17
      refine JC.region ?_
      obtain rfl : k = 8 := by omega
      refine JL.val rfl rfl rfl (.none rfl) (Ev.loadB rfl (by repeat (first | exact List.Mem.head _ | refine List.Mem.tail _ ?_ | refine List.mem_append_right _ ?_ | assumption)) Tryd.underlying78 rfl Tryd.sizeOf78 (by first | rfl | exact dig_size _ | (rw [arr8_size]; first | exact sha_length _ | exact shaO_length _ | assumption))) ?_
      refine JL.sto rfl rfl (.none rfl) (Es.storeA rfl rfl Tryd.sizeOf78 (by repeat (first | exact .here | apply Upd.there | apply Upd.left)) (by first | rfl | exact dig_size _ | (rw [arr8_size]; first | exact sha_length _ | exact shaO_length _ | assumption)) (by first | rfl | exact dig_size _ | (rw [arr8_size]; first | exact sha_length _ | exact shaO_length _ | assumption)) (arr32_one _)) ?_
      refine JL.nil ?_
      refine JQ.thenN ?_
      refine JC.ret ?_
      refine JQ.end1 (H' := []) (.inl rfl) rfl (.agg rfl (by repeat (first | exact List.Mem.head _ | refine List.Mem.tail _ ?_ | refine List.mem_append_right _ ?_ | assumption)) Tryd.underlying78 rfl Tryd.sizeOf78 (by first | rfl | exact dig_size _ | (rw [arr8_size]; first | exact sha_length _ | exact shaO_length _ | assumption))) ?_ ?_
      · first | exact Sub.all | exact Sub.of_cnt (fun a => by (try dsimp only); simp only [cntA]; omega) | repeat (first | exact Sub.nil | refine Sub.cons (by first | exact .here | exact .there .here | exact .there (.there .here) | exact .there (.there (.there .here)) | exact .there (.there (.there (.there .here)))) ?_ | exact Sub.all)
      · exact rfl

end Go.Proofs.YtebinlinhmohbaaDoor
