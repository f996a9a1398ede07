/-
  Boards: the nodes of a proof, in the law's own functions.
-/
import Derived.Test.YtopaednfjjjnbaaDoorFrk0Fk
namespace Go.Proofs.YtopaednfjjjnbaaDoor
open Go Go.RowKit
set_option maxRecDepth 100000

set_option maxHeartbeats 4000000 in
theorem fsteps_any_step (N : Nat) (ih : ∀ (x : Dig) (m : Nat) (n : Nat) (fr : Bool) (oa : Option Addr) (cap : Nat) (ds : List Dig) (w : World) (_ : 1 ≤ m) (_ : m ≤ n) (_ : n ≤ 1024) (_ : Dl w oa cap ds) (_ : ds.length = stepsC m n fr) (_ : KMem 1 w) (_ : FMem 0 w), n < N → Calls Tryd.prog 43 #[.int .i64 (m : Int), .int .i64 (n : Int), .bool fr, .agg (arr8 x.1), .slice oa ds.length cap] w (Ret w (fun v H => ∃ r : Option Row, v = .tuple #[Row.v (stepsN m n fr x ds).length r, .agg (arr8 ((ledC m n fr x ds).1).1), .agg (arr8 ((ledC m n fr x ds).2).1)] ∧ H = Row.b 123 r ∧ Row.ok 96 (stepsN m n fr x ds).length (nfl (stepsN m n fr x ds)) r))) (x : Dig) (m : Nat) (n : Nat) (fr : Bool) (oa : Option Addr) (cap : Nat) (ds : List Dig) (w : World) (hm1 : 1 ≤ m) (hm2 : m ≤ n) (hmx : n ≤ 1024) (hd : Dl w oa cap ds) (hst : ds.length = stepsC m n fr) (hk : KMem 1 w) (hf : FMem 0 w) (hN : n = N) :
    Calls Tryd.prog 43 #[.int .i64 (m : Int), .int .i64 (n : Int), .bool fr, .agg (arr8 x.1), .slice oa ds.length cap] w (Ret w (fun v H => ∃ r : Option Row, v = .tuple #[Row.v (stepsN m n fr x ds).length r, .agg (arr8 ((ledC m n fr x ds).1).1), .agg (arr8 ((ledC m n fr x ds).2).1)] ∧ H = Row.b 123 r ∧ Row.ok 96 (stepsN m n fr x ds).length (nfl (stepsN m n fr x ds)) r)) := by
  refine enter (vs := [.int .i64 (m : Int), .int .i64 (n : Int), .bool fr, .agg (arr8 x.1), .slice oa ds.length cap]) Tryd.func43 rfl Tryd.ntmps43 rfl ?_
  refine JC.seq ?_
  refine JC.region ?_
  refine JL.new rfl rfl rfl (.none rfl) (En.boxA rfl) (fun b8 hb8 => ?_)
  refine JL.asg ?_
  refine JL.new rfl rfl rfl (.none rfl) (En.allocZ (cs := arr8 (List.replicate 32 0)) Tryd.zeroValue33 rfl) (fun b11 hb11 => ?_)
  refine JL.new rfl rfl rfl (.none rfl) (En.allocZ (cs := arr8 (List.replicate 32 0)) Tryd.zeroValue33 rfl) (fun b12 hb12 => ?_)
  refine JL.nil ?_
  refine JQ.thenN ?_
  refine JC.seq ?_
  refine JC.seq ?_
  refine JC.region ?_
  refine JL.mv ?_
  refine JL.mv ?_
  refine JL.val rfl rfl rfl (.none rfl) (Ev.bin rfl rfl eql_int) ?_
  refine JL.nil ?_
  refine JQ.thenN ?_
  refine JC.cond rfl (fun hc1 => ?_) (fun hc1 => ?_)
  · -- t27 True
    replace hc1 := of_decide_eq_true hc1
    have he : m = n := by omega
    refine JC.seq ?_
    refine JC.seq ?_
    refine JC.region ?_
    refine JL.mv ?_
    refine JL.nil ?_
    refine JQ.thenN ?_
    refine JC.cond rfl (fun hfr => ?_) (fun hfr => ?_)
    · -- t28 True
      subst hfr
      refine JC.seq ?_
      refine JC.cut (X := Unit) (fun _ => [(10, .slice none 0 0), (11, .pointer (some ⟨b11, 0, none⟩)), (12, .pointer (some ⟨b12, 0, none⟩))]) (fun _ => [(b12, Obj.cells (arr8 x.1) 33 (0, 0)), (b11, Obj.cells (arr8 x.1) 33 (0, 0))]) ?_ ?_
      · refine JC.regionA (by kernel_rfl) ?_
        refine JA.tkc 2 rfl (.none rfl) (fun _ => (Ev.assign rfl)) ?_
        refine JA.branch [0, 1] (by kernel_rfl) rfl ?_
        refine JAll.cons rfl ?_ ?_
        · -- 0
          refine JO.val rfl rfl rfl (.none rfl) (Ev.lB Tryd.underlying33 Tryd.sizeOf33) ?_
          refine JA.branch [1, 3] (by kernel_rfl) rfl ?_
          refine JAll.cons rfl ?_ ?_
          · -- 1
            refine JO.val rfl rfl rfl (.none rfl) (Ev.lB Tryd.underlying33 Tryd.sizeOf33) ?_
            refine JA.one 3 ?_
            refine JO.sto rfl rfl (.none rfl) (Es.sA Tryd.sizeOf33) ?_
            refine JA.one 4 ?_
            refine JO.sto rfl rfl (.none rfl) (Es.sA Tryd.sizeOf33) ?_
            refine JA.done (by kernel_rfl) ?_
            refine JQ.cutN () ?_ ?_
            · exact Keeps.k
            · exact Sub.k
          refine JAll.cons rfl ?_ JAll.nil
          refine JO.sto rfl rfl (.none rfl) (Es.sA Tryd.sizeOf33) ?_
          refine JA.one 1 ?_
          refine JO.val rfl rfl rfl (.none rfl) (Ev.lB Tryd.underlying33 Tryd.sizeOf33) ?_
          refine JA.one 4 ?_
          refine JO.sto rfl rfl (.none rfl) (Es.sA Tryd.sizeOf33) ?_
          refine JA.done (by kernel_rfl) ?_
          refine JQ.cutN () ?_ ?_
          · exact Keeps.k
          · exact Sub.k
        refine JAll.cons rfl ?_ JAll.nil
        refine JO.val rfl rfl rfl (.none rfl) (Ev.lB Tryd.underlying33 Tryd.sizeOf33) ?_
        refine JA.one 0 ?_
        refine JO.val rfl rfl rfl (.none rfl) (Ev.lB Tryd.underlying33 Tryd.sizeOf33) ?_
        refine JA.one 3 ?_
        refine JO.sto rfl rfl (.none rfl) (Es.sA Tryd.sizeOf33) ?_
        refine JA.one 4 ?_
        refine JO.sto rfl rfl (.none rfl) (Es.sA Tryd.sizeOf33) ?_
        refine JA.done (by kernel_rfl) ?_
        refine JQ.cutN () ?_ ?_
        · exact Keeps.k
        · exact Sub.k
      rintro _
      refine JQ.thenN ?_
      refine JC.ret ?_
      refine JQ.thenR ?_
      refine JQ.thenR ?_
      refine JQ.end3 (H' := []) (.inl rfl) rfl (.tmp rfl) (.agg rfl memK Tryd.underlying33 rfl Tryd.sizeOf33 szK) (.agg rfl memK Tryd.underlying33 rfl Tryd.sizeOf33 szK) ?_ ?_
      · first | exact Sub.all | exact Sub.nil | exact Sub.of_cnt (fun a => by (try dsimp only); simp only [cntA]; omega)
      · first | exact ⟨none, by rw [stepsN_top he, ledC_top he]; rfl, rfl, by rw [stepsN_top he]; exact Row.ok0⟩ | exact ⟨none, by rw [stepsN_top he, ledC_top he]; simp only [Bool.false_eq_true, if_false]; rw [hhd]; rfl, rfl, by rw [stepsN_top he]; exact Row.ok0⟩ | exact ⟨some rn, by rw [stepsN_left hm1 (by omega) hl, ledC_left hm1 (by omega) hl, List.length_append]; rfl, rfl, by rw [stepsN_left hm1 (by omega) hl, List.length_append, nfl_append]; exact hrn⟩ | exact ⟨some rn, by rw [stepsN_right hm1 (by omega) hl, ledC_right hm1 (by omega) hl, List.length_append]; rfl, rfl, by rw [stepsN_right hm1 (by omega) hl, List.length_append, nfl_append]; exact hrn⟩
    · -- t28 False
      subst hfr
      have h1 : ds.length = 1 := by rw [hst, stepsC_top he]; rfl
      obtain ⟨a, rfl⟩ := Cs.get_some hd (by omega)
      obtain ⟨d, hd0⟩ := get_some (l := ds) (k := 0) (by omega)
      have hhd : ds.headD zeroD = d := headD_get hd0
      refine JC.skip ?_
      refine JQ.thenN ?_
      refine JC.seq ?_
      refine JC.cut (X := Unit) (fun _ => [(10, .slice none 0 0), (11, .pointer (some ⟨b11, 0, none⟩)), (12, .pointer (some ⟨b12, 0, none⟩))]) (fun _ => [(b12, Obj.cells (arr8 d.1) 33 (0, 0)), (b11, Obj.cells (arr8 d.1) 33 (0, 0))]) ?_ ?_
      · refine JC.regionA (by kernel_rfl) ?_
        refine JA.tkc 0 rfl (.none rfl) (fun _ => (Ev.move rfl)) ?_
        refine JA.tkc 1 rfl (.none rfl) (fun _ => (Ev.idxS (k := 0) rfl rfl Tryd.underlying39 Tryd.sizeOf33 rfl (by omega))) ?_
        refine JA.tkc 3 rfl (.none rfl) (fun _ => (Ev.move rfl)) ?_
        refine JA.tkc 4 rfl (.none rfl) (fun _ => (Ev.idxS (k := 0) rfl rfl Tryd.underlying39 Tryd.sizeOf33 rfl (by omega))) ?_
        refine JA.tkc 6 rfl (.none rfl) (fun _ => (Ev.assign rfl)) ?_
        refine JA.branch [2, 5] (by kernel_rfl) rfl ?_
        refine JAll.cons rfl ?_ ?_
        · -- 2
          refine JO.val rfl rfl rfl (.none rfl) (Ev.loadD rfl Tryd.underlying33 rfl Tryd.sizeOf33 (Rds.old ((hd.mem a rfl).atD hd0))) ?_
          refine JA.branch [5, 7] (by kernel_rfl) rfl ?_
          refine JAll.cons rfl ?_ ?_
          · -- 5
            refine JO.val rfl rfl rfl (.none rfl) (Ev.loadD rfl Tryd.underlying33 rfl Tryd.sizeOf33 (Rds.old ((hd.mem a rfl).atD hd0))) ?_
            refine JA.one 7 ?_
            refine JO.sto rfl rfl (.none rfl) (Es.sA Tryd.sizeOf33) ?_
            refine JA.one 8 ?_
            refine JO.sto rfl rfl (.none rfl) (Es.sA Tryd.sizeOf33) ?_
            refine JA.done (by kernel_rfl) ?_
            refine JQ.cutN () ?_ ?_
            · exact Keeps.k
            · exact Sub.k
          refine JAll.cons rfl ?_ JAll.nil
          refine JO.sto rfl rfl (.none rfl) (Es.sA Tryd.sizeOf33) ?_
          refine JA.one 5 ?_
          refine JO.val rfl rfl rfl (.none rfl) (Ev.loadD rfl Tryd.underlying33 rfl Tryd.sizeOf33 (Rds.old ((hd.mem a rfl).atD hd0))) ?_
          refine JA.one 8 ?_
          refine JO.sto rfl rfl (.none rfl) (Es.sA Tryd.sizeOf33) ?_
          refine JA.done (by kernel_rfl) ?_
          refine JQ.cutN () ?_ ?_
          · exact Keeps.k
          · exact Sub.k
        refine JAll.cons rfl ?_ JAll.nil
        refine JO.val rfl rfl rfl (.none rfl) (Ev.loadD rfl Tryd.underlying33 rfl Tryd.sizeOf33 (Rds.old ((hd.mem a rfl).atD hd0))) ?_
        refine JA.one 2 ?_
        refine JO.val rfl rfl rfl (.none rfl) (Ev.loadD rfl Tryd.underlying33 rfl Tryd.sizeOf33 (Rds.old ((hd.mem a rfl).atD hd0))) ?_
        refine JA.one 7 ?_
        refine JO.sto rfl rfl (.none rfl) (Es.sA Tryd.sizeOf33) ?_
        refine JA.one 8 ?_
        refine JO.sto rfl rfl (.none rfl) (Es.sA Tryd.sizeOf33) ?_
        refine JA.done (by kernel_rfl) ?_
        refine JQ.cutN () ?_ ?_
        · exact Keeps.k
        · exact Sub.k
      rintro _
      refine JQ.thenN ?_
      refine JC.ret ?_
      refine JQ.thenR ?_
      refine JQ.end3 (H' := []) (.inl rfl) rfl (.tmp rfl) (.agg rfl memK Tryd.underlying33 rfl Tryd.sizeOf33 szK) (.agg rfl memK Tryd.underlying33 rfl Tryd.sizeOf33 szK) ?_ ?_
      · first | exact Sub.all | exact Sub.nil | exact Sub.of_cnt (fun a => by (try dsimp only); simp only [cntA]; omega)
      · first | exact ⟨none, by rw [stepsN_top he, ledC_top he]; rfl, rfl, by rw [stepsN_top he]; exact Row.ok0⟩ | exact ⟨none, by rw [stepsN_top he, ledC_top he]; simp only [Bool.false_eq_true, if_false]; rw [hhd]; rfl, rfl, by rw [stepsN_top he]; exact Row.ok0⟩ | exact ⟨some rn, by rw [stepsN_left hm1 (by omega) hl, ledC_left hm1 (by omega) hl, List.length_append]; rfl, rfl, by rw [stepsN_left hm1 (by omega) hl, List.length_append, nfl_append]; exact hrn⟩ | exact ⟨some rn, by rw [stepsN_right hm1 (by omega) hl, ledC_right hm1 (by omega) hl, List.length_append]; rfl, rfl, by rw [stepsN_right hm1 (by omega) hl, List.length_append, nfl_append]; exact hrn⟩
  · -- t27 False
    replace hc1 := of_decide_eq_false hc1
    have h2 : 2 ≤ n := by omega
    have hbl := bel_lt h2
    have hbp := bel_pos n
    obtain ⟨q, y, rfl, hq⟩ : ∃ q y, ds = q ++ [y] ∧ q.length + 1 = stepsC m n fr := by obtain ⟨k, hk⟩ := stepsC_succ (fr := fr) hm1 (show m < n by omega); obtain ⟨q, y, h3, h4⟩ := ends_ex (p := ds) (k := k) (by omega); exact ⟨q, y, h3, by omega⟩
    have hql : (q ++ [y]).length = q.length + 1 := by simp
    have hle := hd.le
    have hsl := stepsC_le n m n fr (Nat.le_refl _) hm1 hm2
    obtain ⟨a, rfl⟩ := Cs.get_some hd (by omega)
    have hy0 : (q ++ [y])[q.length]? = some y := by simp
    refine JC.skip ?_
    refine JQ.thenN ?_
    refine JC.seq ?_
    refine JC.region ?_
    refine JL.mv ?_
    refine JL.callV rfl (.none rfl) rfl Tryd.call79 (fun w1 hw1 => fbelow_any n (by omega) (by omega) w1) ?_
    refine JL.asg ?_
    refine JL.nil ?_
    refine JQ.thenN ?_
    refine JC.seq ?_
    refine JC.cut (X := Nat) (fun b15 => [(0, .int .i64 (m : Int)), (1, .int .i64 (n : Int)), (2, .bool fr), (8, .pointer (some ⟨b8, 0, none⟩)), (11, .pointer (some ⟨b11, 0, none⟩)), (12, .pointer (some ⟨b12, 0, none⟩)), (13, .int .i64 ((bel n : Nat) : Int)), (14, .slice (some a) q.length cap), (15, .pointer (some ⟨b15, 0, none⟩))]) (fun b15 => [(b15, Obj.cells (arr8 y.1) 33 (0, 0)), (b12, Obj.cells (arr8 (List.replicate 32 0)) 33 (0, 0)), (b11, Obj.cells (arr8 (List.replicate 32 0)) 33 (0, 0)), (b8, Obj.cells (arr8 x.1) 33 (0, 0))]) ?_ ?_
    · refine JC.regionA (by kernel_rfl) ?_
      refine JA.tkc 0 rfl (.none rfl) (fun _ => (Ev.move rfl)) ?_
      refine JA.tkc 1 rfl (.none rfl) (fun _ => (Ev.move rfl)) ?_
      refine JA.tkc 5 rfl (.none rfl) (fun _ => (Ev.move rfl)) ?_
      refine JA.tkc 6 rfl (.none rfl) (fun _ => (Ev.move rfl)) ?_
      refine JA.branch [2, 7, 11] (by kernel_rfl) rfl ?_
      refine JAll.cons rfl ?_ ?_
      · -- 2
        refine JO.val rfl rfl rfl (.none rfl) (Ev.lenS rfl Tryd.underlying39) ?_
        refine JA.tkc 3 rfl (.none rfl) (fun _ => (Ev.bin rfl rfl (sub_i64 (by omega)))) ?_
        refine JA.tkc 4 rfl (.none rfl) (fun _ => (Ev.cast (v' := .slice (some a) q.length cap) (sub3_0) (Ev.sliceHi rfl rfl Tryd.underlying39 Tryd.sizeOf33 (h := q.length) (by omega) (by have := hd.le; omega)))) ?_
        refine JA.branch [7, 11] (by kernel_rfl) rfl ?_
        refine JAll.cons rfl ?_ ?_
        · -- 7
          refine JO.val rfl rfl rfl (.none rfl) (Ev.lenS rfl Tryd.underlying39) ?_
          refine JA.tkc 8 rfl (.none rfl) (fun _ => (Ev.bin rfl rfl (sub_i64 (by omega)))) ?_
          refine JA.tkc 9 rfl (.none rfl) (fun _ => (Ev.idxS rfl rfl Tryd.underlying39 Tryd.sizeOf33 (k := q.length) (by omega) (by omega))) ?_
          refine JA.branch [10, 11] (by kernel_rfl) rfl ?_
          refine JAll.cons rfl ?_ ?_
          · -- 10
            refine JO.val rfl rfl rfl (.none rfl) (Ev.loadD rfl Tryd.underlying33 rfl Tryd.sizeOf33 (Rds.old ((hd.mem a rfl).atD hy0))) ?_
            refine JA.one 11 ?_
            refine JO.new rfl rfl rfl (.none rfl) (En.allocZ (cs := arr8 (List.replicate 32 0)) Tryd.zeroValue33 rfl) (fun b15 hb15 => ?_)
            refine JA.tkc 12 rfl (.none rfl) (fun _ => (Ev.assign rfl)) ?_
            refine JA.one 13 ?_
            refine JO.sto rfl rfl (.none rfl) (Es.sA Tryd.sizeOf33) ?_
            refine JA.done (by kernel_rfl) ?_
            refine JQ.cutN b15 ?_ ?_
            · exact Keeps.k
            · exact Sub.k
          refine JAll.cons rfl ?_ JAll.nil
          refine JO.new rfl rfl rfl (.none rfl) (En.allocZ (cs := arr8 (List.replicate 32 0)) Tryd.zeroValue33 rfl) (fun b15 hb15 => ?_)
          refine JA.tkc 12 rfl (.none rfl) (fun _ => (Ev.assign rfl)) ?_
          refine JA.one 10 ?_
          refine JO.val rfl rfl rfl (.none rfl) (Ev.loadD rfl Tryd.underlying33 rfl Tryd.sizeOf33 (Rds.old ((hd.mem a rfl).atD hy0))) ?_
          refine JA.one 13 ?_
          refine JO.sto rfl rfl (.none rfl) (Es.sA Tryd.sizeOf33) ?_
          refine JA.done (by kernel_rfl) ?_
          refine JQ.cutN b15 ?_ ?_
          · exact Keeps.k
          · exact Sub.k
        refine JAll.cons rfl ?_ JAll.nil
        refine JO.new rfl rfl rfl (.none rfl) (En.allocZ (cs := arr8 (List.replicate 32 0)) Tryd.zeroValue33 rfl) (fun b15 hb15 => ?_)
        refine JA.tkc 12 rfl (.none rfl) (fun _ => (Ev.assign rfl)) ?_
        refine JA.one 7 ?_
        refine JO.val rfl rfl rfl (.none rfl) (Ev.lenS rfl Tryd.underlying39) ?_
        refine JA.tkc 8 rfl (.none rfl) (fun _ => (Ev.bin rfl rfl (sub_i64 (by omega)))) ?_
        refine JA.tkc 9 rfl (.none rfl) (fun _ => (Ev.idxS rfl rfl Tryd.underlying39 Tryd.sizeOf33 (k := q.length) (by omega) (by omega))) ?_
        refine JA.one 10 ?_
        refine JO.val rfl rfl rfl (.none rfl) (Ev.loadD rfl Tryd.underlying33 rfl Tryd.sizeOf33 (Rds.old ((hd.mem a rfl).atD hy0))) ?_
        refine JA.one 13 ?_
        refine JO.sto rfl rfl (.none rfl) (Es.sA Tryd.sizeOf33) ?_
        refine JA.done (by kernel_rfl) ?_
        refine JQ.cutN b15 ?_ ?_
        · exact Keeps.k
        · exact Sub.k
      refine JAll.cons rfl ?_ ?_
      · -- 7
        refine JO.val rfl rfl rfl (.none rfl) (Ev.lenS rfl Tryd.underlying39) ?_
        refine JA.tkc 8 rfl (.none rfl) (fun _ => (Ev.bin rfl rfl (sub_i64 (by omega)))) ?_
        refine JA.tkc 9 rfl (.none rfl) (fun _ => (Ev.idxS rfl rfl Tryd.underlying39 Tryd.sizeOf33 (k := q.length) (by omega) (by omega))) ?_
        refine JA.branch [2, 10, 11] (by kernel_rfl) rfl ?_
        refine JAll.cons rfl ?_ ?_
        · -- 2
          refine JO.val rfl rfl rfl (.none rfl) (Ev.lenS rfl Tryd.underlying39) ?_
          refine JA.tkc 3 rfl (.none rfl) (fun _ => (Ev.bin rfl rfl (sub_i64 (by omega)))) ?_
          refine JA.tkc 4 rfl (.none rfl) (fun _ => (Ev.cast (v' := .slice (some a) q.length cap) (sub3_0) (Ev.sliceHi rfl rfl Tryd.underlying39 Tryd.sizeOf33 (h := q.length) (by omega) (by have := hd.le; omega)))) ?_
          refine JA.branch [10, 11] (by kernel_rfl) rfl ?_
          refine JAll.cons rfl ?_ ?_
          · -- 10
            refine JO.val rfl rfl rfl (.none rfl) (Ev.loadD rfl Tryd.underlying33 rfl Tryd.sizeOf33 (Rds.old ((hd.mem a rfl).atD hy0))) ?_
            refine JA.one 11 ?_
            refine JO.new rfl rfl rfl (.none rfl) (En.allocZ (cs := arr8 (List.replicate 32 0)) Tryd.zeroValue33 rfl) (fun b15 hb15 => ?_)
            refine JA.tkc 12 rfl (.none rfl) (fun _ => (Ev.assign rfl)) ?_
            refine JA.one 13 ?_
            refine JO.sto rfl rfl (.none rfl) (Es.sA Tryd.sizeOf33) ?_
            refine JA.done (by kernel_rfl) ?_
            refine JQ.cutN b15 ?_ ?_
            · exact Keeps.k
            · exact Sub.k
          refine JAll.cons rfl ?_ JAll.nil
          refine JO.new rfl rfl rfl (.none rfl) (En.allocZ (cs := arr8 (List.replicate 32 0)) Tryd.zeroValue33 rfl) (fun b15 hb15 => ?_)
          refine JA.tkc 12 rfl (.none rfl) (fun _ => (Ev.assign rfl)) ?_
          refine JA.one 10 ?_
          refine JO.val rfl rfl rfl (.none rfl) (Ev.loadD rfl Tryd.underlying33 rfl Tryd.sizeOf33 (Rds.old ((hd.mem a rfl).atD hy0))) ?_
          refine JA.one 13 ?_
          refine JO.sto rfl rfl (.none rfl) (Es.sA Tryd.sizeOf33) ?_
          refine JA.done (by kernel_rfl) ?_
          refine JQ.cutN b15 ?_ ?_
          · exact Keeps.k
          · exact Sub.k
        refine JAll.cons rfl ?_ ?_
        · -- 10
          refine JO.val rfl rfl rfl (.none rfl) (Ev.loadD rfl Tryd.underlying33 rfl Tryd.sizeOf33 (Rds.old ((hd.mem a rfl).atD hy0))) ?_
          refine JA.branch [2, 11] (by kernel_rfl) rfl ?_
          refine JAll.cons rfl ?_ ?_
          · -- 2
            refine JO.val rfl rfl rfl (.none rfl) (Ev.lenS rfl Tryd.underlying39) ?_
            refine JA.tkc 3 rfl (.none rfl) (fun _ => (Ev.bin rfl rfl (sub_i64 (by omega)))) ?_
            refine JA.tkc 4 rfl (.none rfl) (fun _ => (Ev.cast (v' := .slice (some a) q.length cap) (sub3_0) (Ev.sliceHi rfl rfl Tryd.underlying39 Tryd.sizeOf33 (h := q.length) (by omega) (by have := hd.le; omega)))) ?_
            refine JA.one 11 ?_
            refine JO.new rfl rfl rfl (.none rfl) (En.allocZ (cs := arr8 (List.replicate 32 0)) Tryd.zeroValue33 rfl) (fun b15 hb15 => ?_)
            refine JA.tkc 12 rfl (.none rfl) (fun _ => (Ev.assign rfl)) ?_
            refine JA.one 13 ?_
            refine JO.sto rfl rfl (.none rfl) (Es.sA Tryd.sizeOf33) ?_
            refine JA.done (by kernel_rfl) ?_
            refine JQ.cutN b15 ?_ ?_
            · exact Keeps.k
            · exact Sub.k
          refine JAll.cons rfl ?_ JAll.nil
          refine JO.new rfl rfl rfl (.none rfl) (En.allocZ (cs := arr8 (List.replicate 32 0)) Tryd.zeroValue33 rfl) (fun b15 hb15 => ?_)
          refine JA.one 2 ?_
          refine JO.val rfl rfl rfl (.none rfl) (Ev.lenS rfl Tryd.underlying39) ?_
          refine JA.tkc 3 rfl (.none rfl) (fun _ => (Ev.bin rfl rfl (sub_i64 (by omega)))) ?_
          refine JA.tkc 4 rfl (.none rfl) (fun _ => (Ev.cast (v' := .slice (some a) q.length cap) (sub3_0) (Ev.sliceHi rfl rfl Tryd.underlying39 Tryd.sizeOf33 (h := q.length) (by omega) (by have := hd.le; omega)))) ?_
          refine JA.tkc 12 rfl (.none rfl) (fun _ => (Ev.assign rfl)) ?_
          refine JA.one 13 ?_
          refine JO.sto rfl rfl (.none rfl) (Es.sA Tryd.sizeOf33) ?_
          refine JA.done (by kernel_rfl) ?_
          refine JQ.cutN b15 ?_ ?_
          · exact Keeps.k
          · exact Sub.k
        refine JAll.cons rfl ?_ JAll.nil
        refine JO.new rfl rfl rfl (.none rfl) (En.allocZ (cs := arr8 (List.replicate 32 0)) Tryd.zeroValue33 rfl) (fun b15 hb15 => ?_)
        refine JA.branch [2, 10] (by kernel_rfl) rfl ?_
        refine JAll.cons rfl ?_ ?_
        · -- 2
          refine JO.val rfl rfl rfl (.none rfl) (Ev.lenS rfl Tryd.underlying39) ?_
          refine JA.tkc 3 rfl (.none rfl) (fun _ => (Ev.bin rfl rfl (sub_i64 (by omega)))) ?_
          refine JA.tkc 4 rfl (.none rfl) (fun _ => (Ev.cast (v' := .slice (some a) q.length cap) (sub3_0) (Ev.sliceHi rfl rfl Tryd.underlying39 Tryd.sizeOf33 (h := q.length) (by omega) (by have := hd.le; omega)))) ?_
          refine JA.tkc 12 rfl (.none rfl) (fun _ => (Ev.assign rfl)) ?_
          refine JA.one 10 ?_
          refine JO.val rfl rfl rfl (.none rfl) (Ev.loadD rfl Tryd.underlying33 rfl Tryd.sizeOf33 (Rds.old ((hd.mem a rfl).atD hy0))) ?_
          refine JA.one 13 ?_
          refine JO.sto rfl rfl (.none rfl) (Es.sA Tryd.sizeOf33) ?_
          refine JA.done (by kernel_rfl) ?_
          refine JQ.cutN b15 ?_ ?_
          · exact Keeps.k
          · exact Sub.k
        refine JAll.cons rfl ?_ JAll.nil
        refine JO.val rfl rfl rfl (.none rfl) (Ev.loadD rfl Tryd.underlying33 rfl Tryd.sizeOf33 (Rds.old ((hd.mem a rfl).atD hy0))) ?_
        refine JA.one 2 ?_
        refine JO.val rfl rfl rfl (.none rfl) (Ev.lenS rfl Tryd.underlying39) ?_
        refine JA.tkc 3 rfl (.none rfl) (fun _ => (Ev.bin rfl rfl (sub_i64 (by omega)))) ?_
        refine JA.tkc 4 rfl (.none rfl) (fun _ => (Ev.cast (v' := .slice (some a) q.length cap) (sub3_0) (Ev.sliceHi rfl rfl Tryd.underlying39 Tryd.sizeOf33 (h := q.length) (by omega) (by have := hd.le; omega)))) ?_
        refine JA.tkc 12 rfl (.none rfl) (fun _ => (Ev.assign rfl)) ?_
        refine JA.one 13 ?_
        refine JO.sto rfl rfl (.none rfl) (Es.sA Tryd.sizeOf33) ?_
        refine JA.done (by kernel_rfl) ?_
        refine JQ.cutN b15 ?_ ?_
        · exact Keeps.k
        · exact Sub.k
      refine JAll.cons rfl ?_ JAll.nil
      refine JO.new rfl rfl rfl (.none rfl) (En.allocZ (cs := arr8 (List.replicate 32 0)) Tryd.zeroValue33 rfl) (fun b15 hb15 => ?_)
      refine JA.branch [2, 7] (by kernel_rfl) rfl ?_
      refine JAll.cons rfl ?_ ?_
      · -- 2
        refine JO.val rfl rfl rfl (.none rfl) (Ev.lenS rfl Tryd.underlying39) ?_
        refine JA.tkc 3 rfl (.none rfl) (fun _ => (Ev.bin rfl rfl (sub_i64 (by omega)))) ?_
        refine JA.tkc 4 rfl (.none rfl) (fun _ => (Ev.cast (v' := .slice (some a) q.length cap) (sub3_0) (Ev.sliceHi rfl rfl Tryd.underlying39 Tryd.sizeOf33 (h := q.length) (by omega) (by have := hd.le; omega)))) ?_
        refine JA.tkc 12 rfl (.none rfl) (fun _ => (Ev.assign rfl)) ?_
        refine JA.one 7 ?_
        refine JO.val rfl rfl rfl (.none rfl) (Ev.lenS rfl Tryd.underlying39) ?_
        refine JA.tkc 8 rfl (.none rfl) (fun _ => (Ev.bin rfl rfl (sub_i64 (by omega)))) ?_
        refine JA.tkc 9 rfl (.none rfl) (fun _ => (Ev.idxS rfl rfl Tryd.underlying39 Tryd.sizeOf33 (k := q.length) (by omega) (by omega))) ?_
        refine JA.one 10 ?_
        refine JO.val rfl rfl rfl (.none rfl) (Ev.loadD rfl Tryd.underlying33 rfl Tryd.sizeOf33 (Rds.old ((hd.mem a rfl).atD hy0))) ?_
        refine JA.one 13 ?_
        refine JO.sto rfl rfl (.none rfl) (Es.sA Tryd.sizeOf33) ?_
        refine JA.done (by kernel_rfl) ?_
        refine JQ.cutN b15 ?_ ?_
        · exact Keeps.k
        · exact Sub.k
      refine JAll.cons rfl ?_ JAll.nil
      refine JO.val rfl rfl rfl (.none rfl) (Ev.lenS rfl Tryd.underlying39) ?_
      refine JA.tkc 8 rfl (.none rfl) (fun _ => (Ev.bin rfl rfl (sub_i64 (by omega)))) ?_
      refine JA.tkc 9 rfl (.none rfl) (fun _ => (Ev.idxS rfl rfl Tryd.underlying39 Tryd.sizeOf33 (k := q.length) (by omega) (by omega))) ?_
      refine JA.branch [2, 10] (by kernel_rfl) rfl ?_
      refine JAll.cons rfl ?_ ?_
      · -- 2
        refine JO.val rfl rfl rfl (.none rfl) (Ev.lenS rfl Tryd.underlying39) ?_
        refine JA.tkc 3 rfl (.none rfl) (fun _ => (Ev.bin rfl rfl (sub_i64 (by omega)))) ?_
        refine JA.tkc 4 rfl (.none rfl) (fun _ => (Ev.cast (v' := .slice (some a) q.length cap) (sub3_0) (Ev.sliceHi rfl rfl Tryd.underlying39 Tryd.sizeOf33 (h := q.length) (by omega) (by have := hd.le; omega)))) ?_
        refine JA.tkc 12 rfl (.none rfl) (fun _ => (Ev.assign rfl)) ?_
        refine JA.one 10 ?_
        refine JO.val rfl rfl rfl (.none rfl) (Ev.loadD rfl Tryd.underlying33 rfl Tryd.sizeOf33 (Rds.old ((hd.mem a rfl).atD hy0))) ?_
        refine JA.one 13 ?_
        refine JO.sto rfl rfl (.none rfl) (Es.sA Tryd.sizeOf33) ?_
        refine JA.done (by kernel_rfl) ?_
        refine JQ.cutN b15 ?_ ?_
        · exact Keeps.k
        · exact Sub.k
      refine JAll.cons rfl ?_ JAll.nil
      refine JO.val rfl rfl rfl (.none rfl) (Ev.loadD rfl Tryd.underlying33 rfl Tryd.sizeOf33 (Rds.old ((hd.mem a rfl).atD hy0))) ?_
      refine JA.one 2 ?_
      refine JO.val rfl rfl rfl (.none rfl) (Ev.lenS rfl Tryd.underlying39) ?_
      refine JA.tkc 3 rfl (.none rfl) (fun _ => (Ev.bin rfl rfl (sub_i64 (by omega)))) ?_
      refine JA.tkc 4 rfl (.none rfl) (fun _ => (Ev.cast (v' := .slice (some a) q.length cap) (sub3_0) (Ev.sliceHi rfl rfl Tryd.underlying39 Tryd.sizeOf33 (h := q.length) (by omega) (by have := hd.le; omega)))) ?_
      refine JA.tkc 12 rfl (.none rfl) (fun _ => (Ev.assign rfl)) ?_
      refine JA.one 13 ?_
      refine JO.sto rfl rfl (.none rfl) (Es.sA Tryd.sizeOf33) ?_
      refine JA.done (by kernel_rfl) ?_
      refine JQ.cutN b15 ?_ ?_
      · exact Keeps.k
      · exact Sub.k
    rintro b15
    refine JQ.thenN ?_
    refine JC.seq ?_
    refine JC.seq ?_
    refine JC.region ?_
    refine JL.mv ?_
    refine JL.mv ?_
    refine JL.val rfl rfl rfl (.none rfl) (Ev.bin rfl rfl leq_int) ?_
    refine JL.nil ?_
    refine JQ.thenN ?_
    refine JC.cond rfl (fun hc2 => ?_) (fun hc2 => ?_)
    · -- t52 True
      replace hc2 := of_decide_eq_true hc2
      have hl : m ≤ bel n := by omega
      have hsq : q.length = stepsC m (bel n) fr := by have := stepsC_left (fr := fr) hm1 (show m < n by omega) hl; omega
      have hpl := stepsN_le (bel n) m (bel n) fr x q (Nat.le_refl _) hm1 hl
      refine JC.seq ?_
      refine JC.region ?_
      refine JL.mv ?_
      refine JL.mv ?_
      refine JL.mv ?_
      refine JL.val rfl rfl rfl (.none rfl) (Ev.lB Tryd.underlying33 Tryd.sizeOf33) ?_
      refine JL.mv ?_
      refine JL.callN rfl (.none rfl) rfl Tryd.call43 (fun w1 hw1 => ih x m (bel n) fr (some a) cap q w1 (by omega) (by omega) (by omega) (Dl.init (hd.old hw1)) hsq (hk.old hw1) (hf.old hw1) (by omega)) ?_
      rintro _ _ ⟨r1, rfl, rfl, hr1⟩
      refine JL.mv ?_
      refine JL.val rfl rfl rfl (.none rfl) (Ev.ex0 rfl) ?_
      refine JL.val rfl rfl rfl (.none rfl) (Ev.ex1 rfl) ?_
      refine JL.val rfl rfl rfl (.none rfl) (Ev.ex2 rfl) ?_
      refine JL.new rfl rfl rfl (.none rfl) (En.allocZ (cs := arr8 (List.replicate 32 0)) Tryd.zeroValue33 rfl) (fun b17 hb17 => ?_)
      refine JL.new rfl rfl rfl (.none rfl) (En.allocZ (cs := arr8 (List.replicate 32 0)) Tryd.zeroValue33 rfl) (fun b18 hb18 => ?_)
      refine JL.asg ?_
      refine JL.sto rfl rfl (.none rfl) (Es.sA Tryd.sizeOf33) ?_
      refine JL.sto rfl rfl (.none rfl) (Es.sA Tryd.sizeOf33) ?_
      refine JL.nil ?_
      refine JQ.thenN ?_
      refine JC.seq ?_
      refine JC.region ?_
      refine JL.val rfl rfl rfl (.none rfl) (Ev.lB Tryd.underlying33 Tryd.sizeOf33) ?_
      refine JL.val rfl rfl rfl (.none rfl) (Ev.lB Tryd.underlying33 Tryd.sizeOf33) ?_
      refine JL.callV rfl (.none rfl) rfl Tryd.call80 (fun w1 hw1 => fpair_any (ledC m (bel n) fr x q).2 y w1 (hk.old hw1) (hf.old hw1)) ?_
      refine JL.new rfl rfl rfl (.none rfl) (En.allocZ (cs := (fl [zeroD, zeroD, zeroD]).toArray) Tryd.zeroValue123 rfl) (fun b19 hb19 => ?_)
      refine JL.sto rfl rfl (.none rfl) (Es.storeA rfl rfl Tryd.sizeOf123 Upd.k (nfl_size _) (by rw [List.size_toArray, fl_length]; rfl) (fun u hu => nfl_one _ u hu)) ?_
      refine JL.nil ?_
      refine JQ.thenN ?_
      refine JC.seq ?_
      refine JC.cut (X := {rn : Row // Row.ok 96 ((stepsN m (bel n) fr x q).length + 1) (nfl (stepsN m (bel n) fr x q) ++ nfl [((ledC m (bel n) fr x q).2, y)]) (some rn)}) (fun ⟨rn, hrn⟩ => [(10, Row.v ((stepsN m (bel n) fr x q).length + 1) (some rn)), (11, .pointer (some ⟨b11, 0, none⟩)), (12, .pointer (some ⟨b12, 0, none⟩))]) (fun ⟨rn, hrn⟩ => [(b12, Obj.cells (arr8 (nodeD (ledC m (bel n) fr x q).2 y).1) 33 (0, 0)), (b11, Obj.cells (arr8 (ledC m (bel n) fr x q).1.1) 33 (0, 0))] ++ Row.b 123 (some rn)) ?_ ?_
      · refine JC.regionA (by kernel_rfl) ?_
        refine JA.mid (X := Nat × Row) (fun ⟨bq, rn⟩ => Row.ok 96 ((stepsN m (bel n) fr x q).length + 1) (nfl (stepsN m (bel n) fr x q) ++ nfl [((ledC m (bel n) fr x q).2, y)]) (some rn)) (fun ⟨bq, rn⟩ => [(10, Row.v ((stepsN m (bel n) fr x q).length + 1) (some rn)), (72, .agg (arr8 (nodeD (ledC m (bel n) fr x q).2 y).1)), (71, .pointer (some ⟨b19, 0 + 64, none⟩)), (70, .agg (arr8 (ledC m (bel n) fr x q).1.1)), (69, Row.v ((stepsN m (bel n) fr x q).length + 1) (some rn)), (67, .agg (nfl [((ledC m (bel n) fr x q).2, y)]).toArray), (11, .pointer (some ⟨b11, 0, none⟩)), (12, .pointer (some ⟨b12, 0, none⟩)), (17, .pointer (some ⟨b17, 0, none⟩)), (19, .pointer (some ⟨b19, 0, none⟩))]) (fun ⟨bq, rn⟩ => ([(b19, Obj.cells (nfl [((ledC m (bel n) fr x q).2, y)]).toArray 123 (0, 0)), (b17, Obj.cells (arr8 (ledC m (bel n) fr x q).1.1) 33 (0, 0)), (b12, Obj.cells (arr8 (List.replicate 32 0)) 33 (0, 0)), (b11, Obj.cells (arr8 (ledC m (bel n) fr x q).1.1) 33 (0, 0))] ++ Row.b 123 (some rn))) 1 #[true, true, true, true, true, true, true, true, true, false] ?_ (fun hmid0 => ?_)
        · -- state [0, 1, 2, 3, 4, 5, 6, 7, 8]
          rintro ⟨bq, rn⟩ hrn
          refine JA.one 9 ?_
          refine JO.sto rfl rfl (.none rfl) (Es.sA Tryd.sizeOf33) ?_
          refine JA.done (by kernel_rfl) ?_
          refine JQ.cutN ⟨rn, hrn⟩ ?_ ?_
          · exact Keeps.k
          · exact Sub.k
        refine JA.mid (X := Nat × Row) (fun ⟨bq, rn⟩ => Row.ok 96 ((stepsN m (bel n) fr x q).length + 1) (nfl (stepsN m (bel n) fr x q) ++ nfl [((ledC m (bel n) fr x q).2, y)]) (some rn)) (fun ⟨bq, rn⟩ => [(10, Row.v ((stepsN m (bel n) fr x q).length + 1) (some rn)), (72, .agg (arr8 (nodeD (ledC m (bel n) fr x q).2 y).1)), (71, .pointer (some ⟨b19, 0 + 64, none⟩)), (70, .agg (arr8 (ledC m (bel n) fr x q).1.1)), (69, Row.v ((stepsN m (bel n) fr x q).length + 1) (some rn)), (67, .agg (nfl [((ledC m (bel n) fr x q).2, y)]).toArray), (11, .pointer (some ⟨b11, 0, none⟩)), (12, .pointer (some ⟨b12, 0, none⟩)), (17, .pointer (some ⟨b17, 0, none⟩)), (19, .pointer (some ⟨b19, 0, none⟩))]) (fun ⟨bq, rn⟩ => ([(b19, Obj.cells (nfl [((ledC m (bel n) fr x q).2, y)]).toArray 123 (0, 0)), (b17, Obj.cells (arr8 (ledC m (bel n) fr x q).1.1) 33 (0, 0)), (b12, Obj.cells (arr8 (List.replicate 32 0)) 33 (0, 0)), (b11, Obj.cells (arr8 (List.replicate 32 0)) 33 (0, 0))] ++ Row.b 123 (some rn))) 2 #[true, true, true, true, true, true, true, true, false, false] ?_ (fun hmid1 => ?_)
        · -- state [0, 1, 2, 3, 4, 5, 6, 7]
          rintro ⟨bq, rn⟩ hrn
          refine JA.one 8 ?_
          refine JO.sto rfl rfl (.none rfl) (Es.sA Tryd.sizeOf33) ?_
          exact JA.weak rfl (by kernel_rfl) (by exact Keeps.k) (by exact Sub.k) (hmid0 (0, rn) (by exact hrn))
        refine JA.mid (X := Nat × Row) (fun ⟨bq, rn⟩ => Row.ok 96 ((stepsN m (bel n) fr x q).length + 1) (nfl (stepsN m (bel n) fr x q) ++ nfl [((ledC m (bel n) fr x q).2, y)]) (some rn)) (fun ⟨bq, rn⟩ => [(10, Row.v ((stepsN m (bel n) fr x q).length + 1) (some rn)), (71, .pointer (some ⟨b19, 0 + 64, none⟩)), (70, .agg (arr8 (ledC m (bel n) fr x q).1.1)), (69, Row.v ((stepsN m (bel n) fr x q).length + 1) (some rn)), (67, .agg (nfl [((ledC m (bel n) fr x q).2, y)]).toArray), (11, .pointer (some ⟨b11, 0, none⟩)), (12, .pointer (some ⟨b12, 0, none⟩)), (17, .pointer (some ⟨b17, 0, none⟩)), (19, .pointer (some ⟨b19, 0, none⟩))]) (fun ⟨bq, rn⟩ => ([(b19, Obj.cells (nfl [((ledC m (bel n) fr x q).2, y)]).toArray 123 (0, 0)), (b17, Obj.cells (arr8 (ledC m (bel n) fr x q).1.1) 33 (0, 0)), (b12, Obj.cells (arr8 (List.replicate 32 0)) 33 (0, 0)), (b11, Obj.cells (arr8 (ledC m (bel n) fr x q).1.1) 33 (0, 0))] ++ Row.b 123 (some rn))) 2 #[true, true, true, true, true, true, false, true, true, false] ?_ (fun hmid2 => ?_)
        · -- state [0, 1, 2, 3, 4, 5, 7, 8]
          rintro ⟨bq, rn⟩ hrn
          refine JA.one 6 ?_
          refine JO.val rfl rfl rfl (.none rfl) (Ev.loadA (l := (nodeD (((ledC m (bel n) fr x q).2, y)).1 (((ledC m (bel n) fr x q).2, y)).2).1.map u8) rfl Tryd.underlying33 rfl Tryd.sizeOf33 (Rds.ntop (p := ((ledC m (bel n) fr x q).2, y)) memK) (by rw [List.length_map]; exact (nodeD (((ledC m (bel n) fr x q).2, y)).1 (((ledC m (bel n) fr x q).2, y)).2).2)) ?_
          exact JA.weak rfl (by kernel_rfl) (by exact Keeps.k) (by exact Sub.k) (hmid0 (0, rn) (by exact hrn))
        refine JA.mid (X := Nat × Row) (fun ⟨bq, rn⟩ => Row.ok 96 ((stepsN m (bel n) fr x q).length + 1) (nfl (stepsN m (bel n) fr x q) ++ nfl [((ledC m (bel n) fr x q).2, y)]) (some rn)) (fun ⟨bq, rn⟩ => [(10, Row.v ((stepsN m (bel n) fr x q).length + 1) (some rn)), (71, .pointer (some ⟨b19, 0 + 64, none⟩)), (70, .agg (arr8 (ledC m (bel n) fr x q).1.1)), (69, Row.v ((stepsN m (bel n) fr x q).length + 1) (some rn)), (67, .agg (nfl [((ledC m (bel n) fr x q).2, y)]).toArray), (11, .pointer (some ⟨b11, 0, none⟩)), (12, .pointer (some ⟨b12, 0, none⟩)), (17, .pointer (some ⟨b17, 0, none⟩)), (19, .pointer (some ⟨b19, 0, none⟩))]) (fun ⟨bq, rn⟩ => ([(b19, Obj.cells (nfl [((ledC m (bel n) fr x q).2, y)]).toArray 123 (0, 0)), (b17, Obj.cells (arr8 (ledC m (bel n) fr x q).1.1) 33 (0, 0)), (b12, Obj.cells (arr8 (List.replicate 32 0)) 33 (0, 0)), (b11, Obj.cells (arr8 (List.replicate 32 0)) 33 (0, 0))] ++ Row.b 123 (some rn))) 3 #[true, true, true, true, true, true, false, true, false, false] ?_ (fun hmid3 => ?_)
        · -- state [0, 1, 2, 3, 4, 5, 7]
          rintro ⟨bq, rn⟩ hrn
          refine JA.branch [6, 8] (by kernel_rfl) rfl ?_
          refine JAll.cons rfl ?_ ?_
          · -- 6
            refine JO.val rfl rfl rfl (.none rfl) (Ev.loadA (l := (nodeD (((ledC m (bel n) fr x q).2, y)).1 (((ledC m (bel n) fr x q).2, y)).2).1.map u8) rfl Tryd.underlying33 rfl Tryd.sizeOf33 (Rds.ntop (p := ((ledC m (bel n) fr x q).2, y)) memK) (by rw [List.length_map]; exact (nodeD (((ledC m (bel n) fr x q).2, y)).1 (((ledC m (bel n) fr x q).2, y)).2).2)) ?_
            exact JA.weak rfl (by kernel_rfl) (by exact Keeps.k) (by exact Sub.k) (hmid1 (0, rn) (by exact hrn))
          refine JAll.cons rfl ?_ JAll.nil
          refine JO.sto rfl rfl (.none rfl) (Es.sA Tryd.sizeOf33) ?_
          exact JA.weak rfl (by kernel_rfl) (by exact Keeps.k) (by exact Sub.k) (hmid2 (0, rn) (by exact hrn))
        refine JA.mid (X := Nat × Row) (fun ⟨bq, rn⟩ => Row.ok 96 ((stepsN m (bel n) fr x q).length + 1) (nfl (stepsN m (bel n) fr x q) ++ nfl [((ledC m (bel n) fr x q).2, y)]) (some rn)) (fun ⟨bq, rn⟩ => [(10, Row.v ((stepsN m (bel n) fr x q).length + 1) (some rn)), (72, .agg (arr8 (nodeD (ledC m (bel n) fr x q).2 y).1)), (71, .pointer (some ⟨b19, 0 + 64, none⟩)), (69, Row.v ((stepsN m (bel n) fr x q).length + 1) (some rn)), (67, .agg (nfl [((ledC m (bel n) fr x q).2, y)]).toArray), (11, .pointer (some ⟨b11, 0, none⟩)), (12, .pointer (some ⟨b12, 0, none⟩)), (17, .pointer (some ⟨b17, 0, none⟩)), (19, .pointer (some ⟨b19, 0, none⟩))]) (fun ⟨bq, rn⟩ => ([(b19, Obj.cells (nfl [((ledC m (bel n) fr x q).2, y)]).toArray 123 (0, 0)), (b17, Obj.cells (arr8 (ledC m (bel n) fr x q).1.1) 33 (0, 0)), (b12, Obj.cells (arr8 (List.replicate 32 0)) 33 (0, 0)), (b11, Obj.cells (arr8 (List.replicate 32 0)) 33 (0, 0))] ++ Row.b 123 (some rn))) 3 #[true, true, true, true, false, true, true, true, false, false] ?_ (fun hmid4 => ?_)
        · -- state [0, 1, 2, 3, 5, 6, 7]
          rintro ⟨bq, rn⟩ hrn
          refine JA.one 4 ?_
          refine JO.val rfl rfl rfl (.none rfl) (Ev.lB Tryd.underlying33 Tryd.sizeOf33) ?_
          exact JA.weak rfl (by kernel_rfl) (by exact Keeps.k) (by exact Sub.k) (hmid1 (0, rn) (by exact hrn))
        refine JA.mid (X := Nat × Row) (fun ⟨bq, rn⟩ => Row.ok 96 ((stepsN m (bel n) fr x q).length + 1) (nfl (stepsN m (bel n) fr x q) ++ nfl [((ledC m (bel n) fr x q).2, y)]) (some rn)) (fun ⟨bq, rn⟩ => [(10, Row.v ((stepsN m (bel n) fr x q).length + 1) (some rn)), (71, .pointer (some ⟨b19, 0 + 64, none⟩)), (69, Row.v ((stepsN m (bel n) fr x q).length + 1) (some rn)), (67, .agg (nfl [((ledC m (bel n) fr x q).2, y)]).toArray), (11, .pointer (some ⟨b11, 0, none⟩)), (12, .pointer (some ⟨b12, 0, none⟩)), (17, .pointer (some ⟨b17, 0, none⟩)), (19, .pointer (some ⟨b19, 0, none⟩))]) (fun ⟨bq, rn⟩ => ([(b19, Obj.cells (nfl [((ledC m (bel n) fr x q).2, y)]).toArray 123 (0, 0)), (b17, Obj.cells (arr8 (ledC m (bel n) fr x q).1.1) 33 (0, 0)), (b12, Obj.cells (arr8 (List.replicate 32 0)) 33 (0, 0)), (b11, Obj.cells (arr8 (List.replicate 32 0)) 33 (0, 0))] ++ Row.b 123 (some rn))) 4 #[true, true, true, true, false, true, false, true, false, false] ?_ (fun hmid5 => ?_)
        · -- state [0, 1, 2, 3, 5, 7]
          rintro ⟨bq, rn⟩ hrn
          refine JA.branch [4, 6] (by kernel_rfl) rfl ?_
          refine JAll.cons rfl ?_ ?_
          · -- 4
            refine JO.val rfl rfl rfl (.none rfl) (Ev.lB Tryd.underlying33 Tryd.sizeOf33) ?_
            exact JA.weak rfl (by kernel_rfl) (by exact Keeps.k) (by exact Sub.k) (hmid3 (0, rn) (by exact hrn))
          refine JAll.cons rfl ?_ JAll.nil
          refine JO.val rfl rfl rfl (.none rfl) (Ev.loadA (l := (nodeD (((ledC m (bel n) fr x q).2, y)).1 (((ledC m (bel n) fr x q).2, y)).2).1.map u8) rfl Tryd.underlying33 rfl Tryd.sizeOf33 (Rds.ntop (p := ((ledC m (bel n) fr x q).2, y)) memK) (by rw [List.length_map]; exact (nodeD (((ledC m (bel n) fr x q).2, y)).1 (((ledC m (bel n) fr x q).2, y)).2).2)) ?_
          exact JA.weak rfl (by kernel_rfl) (by exact Keeps.k) (by exact Sub.k) (hmid4 (0, rn) (by exact hrn))
        refine JA.mid (X := Nat × Row) (fun ⟨bq, rn⟩ => True) (fun ⟨bq, rn⟩ => [(72, .agg (arr8 (nodeD (ledC m (bel n) fr x q).2 y).1)), (71, .pointer (some ⟨b19, 0 + 64, none⟩)), (70, .agg (arr8 (ledC m (bel n) fr x q).1.1)), (68, .slice (some ⟨bq, 0, none⟩) 1 1), (67, .agg (nfl [((ledC m (bel n) fr x q).2, y)]).toArray), (66, Row.v (stepsN m (bel n) fr x q).length r1), (11, .pointer (some ⟨b11, 0, none⟩)), (12, .pointer (some ⟨b12, 0, none⟩)), (17, .pointer (some ⟨b17, 0, none⟩)), (19, .pointer (some ⟨b19, 0, none⟩))]) (fun ⟨bq, rn⟩ => ([(bq, Obj.cells (nfl [((ledC m (bel n) fr x q).2, y)]).toArray 123 (0, 0)), (b19, Obj.cells (nfl [((ledC m (bel n) fr x q).2, y)]).toArray 123 (0, 0)), (b17, Obj.cells (arr8 (ledC m (bel n) fr x q).1.1) 33 (0, 0)), (b12, Obj.cells (arr8 (List.replicate 32 0)) 33 (0, 0)), (b11, Obj.cells (arr8 (List.replicate 32 0)) 33 (0, 0))] ++ Row.b 123 r1)) 4 #[true, true, true, false, true, true, true, false, false, false] ?_ (fun hmid6 => ?_)
        · -- state [0, 1, 2, 4, 5, 6]
          rintro ⟨bq, rn⟩ _
          refine JA.one 3 ?_
          refine JO.gen rfl rfl rfl (.none rfl) (Eg.append1 (r := r1) (n := (stepsN m (bel n) fr x q).length) (xs := nfl (stepsN m (bel n) fr x q)) (news := nfl [((ledC m (bel n) fr x q).2, y)]) (z := (.agg (fl [zeroD, zeroD, zeroD]).toArray)) (s := 96) (bytes := 96) rfl rfl rfl Cut.k Tryd.underlying78 (by kernel_rfl) (by rw [show (Value.agg (fl [zeroD, zeroD, zeroD]).toArray).cells = (fl [zeroD, zeroD, zeroD]).toArray from rfl, List.size_toArray, fl_length]; rfl) (by decide) (by decide) hr1 (Rds.all memK) (nfl_length _) (by decide) (nfl_one _) (by have := hpl; omega)) ?_
          rintro _ _ ⟨rn, rfl, rfl, hrn⟩
          refine JA.tkc 7 rfl (.none rfl) (fun _ => (Ev.assign rfl)) ?_
          exact JA.weak rfl (by kernel_rfl) (by exact Keeps.k) (by exact Sub.k) (hmid1 (0, rn) (by exact hrn))
        refine JA.mid (X := Nat × Row) (fun ⟨bq, rn⟩ => True) (fun ⟨bq, rn⟩ => [(71, .pointer (some ⟨b19, 0 + 64, none⟩)), (70, .agg (arr8 (ledC m (bel n) fr x q).1.1)), (68, .slice (some ⟨bq, 0, none⟩) 1 1), (67, .agg (nfl [((ledC m (bel n) fr x q).2, y)]).toArray), (66, Row.v (stepsN m (bel n) fr x q).length r1), (11, .pointer (some ⟨b11, 0, none⟩)), (12, .pointer (some ⟨b12, 0, none⟩)), (17, .pointer (some ⟨b17, 0, none⟩)), (19, .pointer (some ⟨b19, 0, none⟩))]) (fun ⟨bq, rn⟩ => ([(bq, Obj.cells (nfl [((ledC m (bel n) fr x q).2, y)]).toArray 123 (0, 0)), (b19, Obj.cells (nfl [((ledC m (bel n) fr x q).2, y)]).toArray 123 (0, 0)), (b17, Obj.cells (arr8 (ledC m (bel n) fr x q).1.1) 33 (0, 0)), (b12, Obj.cells (arr8 (List.replicate 32 0)) 33 (0, 0)), (b11, Obj.cells (arr8 (List.replicate 32 0)) 33 (0, 0))] ++ Row.b 123 r1)) 5 #[true, true, true, false, true, true, false, false, false, false] ?_ (fun hmid7 => ?_)
        · -- state [0, 1, 2, 4, 5]
          rintro ⟨bq, rn⟩ _
          refine JA.branch [3, 6] (by kernel_rfl) rfl ?_
          refine JAll.cons rfl ?_ ?_
          · -- 3
            refine JO.gen rfl rfl rfl (.none rfl) (Eg.append1 (r := r1) (n := (stepsN m (bel n) fr x q).length) (xs := nfl (stepsN m (bel n) fr x q)) (news := nfl [((ledC m (bel n) fr x q).2, y)]) (z := (.agg (fl [zeroD, zeroD, zeroD]).toArray)) (s := 96) (bytes := 96) rfl rfl rfl Cut.k Tryd.underlying78 (by kernel_rfl) (by rw [show (Value.agg (fl [zeroD, zeroD, zeroD]).toArray).cells = (fl [zeroD, zeroD, zeroD]).toArray from rfl, List.size_toArray, fl_length]; rfl) (by decide) (by decide) hr1 (Rds.all memK) (nfl_length _) (by decide) (nfl_one _) (by have := hpl; omega)) ?_
            rintro _ _ ⟨rn, rfl, rfl, hrn⟩
            refine JA.tkc 7 rfl (.none rfl) (fun _ => (Ev.assign rfl)) ?_
            exact JA.weak rfl (by kernel_rfl) (by exact Keeps.k) (by exact Sub.k) (hmid3 (0, rn) (by exact hrn))
          refine JAll.cons rfl ?_ JAll.nil
          refine JO.val rfl rfl rfl (.none rfl) (Ev.loadA (l := (nodeD (((ledC m (bel n) fr x q).2, y)).1 (((ledC m (bel n) fr x q).2, y)).2).1.map u8) rfl Tryd.underlying33 rfl Tryd.sizeOf33 (Rds.ntop (p := ((ledC m (bel n) fr x q).2, y)) memK) (by rw [List.length_map]; exact (nodeD (((ledC m (bel n) fr x q).2, y)).1 (((ledC m (bel n) fr x q).2, y)).2).2)) ?_
          exact JA.wk (hmid6 (bq, ⟨0, 0, #[]⟩) trivial)
        refine JA.mid (X := Nat × Row) (fun ⟨bq, rn⟩ => True) (fun ⟨bq, rn⟩ => [(72, .agg (arr8 (nodeD (ledC m (bel n) fr x q).2 y).1)), (71, .pointer (some ⟨b19, 0 + 64, none⟩)), (68, .slice (some ⟨bq, 0, none⟩) 1 1), (67, .agg (nfl [((ledC m (bel n) fr x q).2, y)]).toArray), (66, Row.v (stepsN m (bel n) fr x q).length r1), (11, .pointer (some ⟨b11, 0, none⟩)), (12, .pointer (some ⟨b12, 0, none⟩)), (17, .pointer (some ⟨b17, 0, none⟩)), (19, .pointer (some ⟨b19, 0, none⟩))]) (fun ⟨bq, rn⟩ => ([(bq, Obj.cells (nfl [((ledC m (bel n) fr x q).2, y)]).toArray 123 (0, 0)), (b19, Obj.cells (nfl [((ledC m (bel n) fr x q).2, y)]).toArray 123 (0, 0)), (b17, Obj.cells (arr8 (ledC m (bel n) fr x q).1.1) 33 (0, 0)), (b12, Obj.cells (arr8 (List.replicate 32 0)) 33 (0, 0)), (b11, Obj.cells (arr8 (List.replicate 32 0)) 33 (0, 0))] ++ Row.b 123 r1)) 5 #[true, true, true, false, false, true, true, false, false, false] ?_ (fun hmid8 => ?_)
        · -- state [0, 1, 2, 5, 6]
          rintro ⟨bq, rn⟩ _
          refine JA.branch [3, 4] (by kernel_rfl) rfl ?_
          refine JAll.cons rfl ?_ ?_
          · -- 3
            refine JO.gen rfl rfl rfl (.none rfl) (Eg.append1 (r := r1) (n := (stepsN m (bel n) fr x q).length) (xs := nfl (stepsN m (bel n) fr x q)) (news := nfl [((ledC m (bel n) fr x q).2, y)]) (z := (.agg (fl [zeroD, zeroD, zeroD]).toArray)) (s := 96) (bytes := 96) rfl rfl rfl Cut.k Tryd.underlying78 (by kernel_rfl) (by rw [show (Value.agg (fl [zeroD, zeroD, zeroD]).toArray).cells = (fl [zeroD, zeroD, zeroD]).toArray from rfl, List.size_toArray, fl_length]; rfl) (by decide) (by decide) hr1 (Rds.all memK) (nfl_length _) (by decide) (nfl_one _) (by have := hpl; omega)) ?_
            rintro _ _ ⟨rn, rfl, rfl, hrn⟩
            refine JA.tkc 7 rfl (.none rfl) (fun _ => (Ev.assign rfl)) ?_
            exact JA.weak rfl (by kernel_rfl) (by exact Keeps.k) (by exact Sub.k) (hmid4 (0, rn) (by exact hrn))
          refine JAll.cons rfl ?_ JAll.nil
          refine JO.val rfl rfl rfl (.none rfl) (Ev.lB Tryd.underlying33 Tryd.sizeOf33) ?_
          exact JA.wk (hmid6 (bq, ⟨0, 0, #[]⟩) trivial)
        refine JA.mid (X := Nat × Row) (fun ⟨bq, rn⟩ => True) (fun ⟨bq, rn⟩ => [(72, .agg (arr8 (nodeD (ledC m (bel n) fr x q).2 y).1)), (71, .pointer (some ⟨b19, 0 + 64, none⟩)), (70, .agg (arr8 (ledC m (bel n) fr x q).1.1)), (67, .agg (nfl [((ledC m (bel n) fr x q).2, y)]).toArray), (66, Row.v (stepsN m (bel n) fr x q).length r1), (11, .pointer (some ⟨b11, 0, none⟩)), (12, .pointer (some ⟨b12, 0, none⟩)), (17, .pointer (some ⟨b17, 0, none⟩)), (19, .pointer (some ⟨b19, 0, none⟩))]) (fun ⟨bq, rn⟩ => ([(b19, Obj.cells (nfl [((ledC m (bel n) fr x q).2, y)]).toArray 123 (0, 0)), (b17, Obj.cells (arr8 (ledC m (bel n) fr x q).1.1) 33 (0, 0)), (b12, Obj.cells (arr8 (List.replicate 32 0)) 33 (0, 0)), (b11, Obj.cells (arr8 (List.replicate 32 0)) 33 (0, 0))] ++ Row.b 123 r1)) 5 #[true, true, false, false, true, true, true, false, false, false] ?_ (fun hmid9 => ?_)
        · -- state [0, 1, 4, 5, 6]
          rintro ⟨bq, rn⟩ _
          refine JA.one 2 ?_
          refine JO.new rfl rfl rfl (.none rfl) (En.bs1N rfl Tryd.underlying78 Tryd.sizeOf123 Tryd.zeroValue123) (fun b68 hb68 => ?_)
          obtain ⟨bq, rfl⟩ : ∃ b, b = b68 := ⟨_, rfl⟩
          exact JA.wk (hmid6 (bq, ⟨0, 0, #[]⟩) trivial)
        refine JA.mid (X := Nat × Row) (fun ⟨bq, rn⟩ => True) (fun ⟨bq, rn⟩ => [(71, .pointer (some ⟨b19, 0 + 64, none⟩)), (68, .slice (some ⟨bq, 0, none⟩) 1 1), (67, .agg (nfl [((ledC m (bel n) fr x q).2, y)]).toArray), (66, Row.v (stepsN m (bel n) fr x q).length r1), (11, .pointer (some ⟨b11, 0, none⟩)), (12, .pointer (some ⟨b12, 0, none⟩)), (17, .pointer (some ⟨b17, 0, none⟩)), (19, .pointer (some ⟨b19, 0, none⟩))]) (fun ⟨bq, rn⟩ => ([(bq, Obj.cells (nfl [((ledC m (bel n) fr x q).2, y)]).toArray 123 (0, 0)), (b19, Obj.cells (nfl [((ledC m (bel n) fr x q).2, y)]).toArray 123 (0, 0)), (b17, Obj.cells (arr8 (ledC m (bel n) fr x q).1.1) 33 (0, 0)), (b12, Obj.cells (arr8 (List.replicate 32 0)) 33 (0, 0)), (b11, Obj.cells (arr8 (List.replicate 32 0)) 33 (0, 0))] ++ Row.b 123 r1)) 6 #[true, true, true, false, false, true, false, false, false, false] ?_ (fun hmid10 => ?_)
        · -- state [0, 1, 2, 5]
          rintro ⟨bq, rn⟩ _
          refine JA.branch [3, 4, 6] (by kernel_rfl) rfl ?_
          refine JAll.cons rfl ?_ ?_
          · -- 3
            refine JO.gen rfl rfl rfl (.none rfl) (Eg.append1 (r := r1) (n := (stepsN m (bel n) fr x q).length) (xs := nfl (stepsN m (bel n) fr x q)) (news := nfl [((ledC m (bel n) fr x q).2, y)]) (z := (.agg (fl [zeroD, zeroD, zeroD]).toArray)) (s := 96) (bytes := 96) rfl rfl rfl Cut.k Tryd.underlying78 (by kernel_rfl) (by rw [show (Value.agg (fl [zeroD, zeroD, zeroD]).toArray).cells = (fl [zeroD, zeroD, zeroD]).toArray from rfl, List.size_toArray, fl_length]; rfl) (by decide) (by decide) hr1 (Rds.all memK) (nfl_length _) (by decide) (nfl_one _) (by have := hpl; omega)) ?_
            rintro _ _ ⟨rn, rfl, rfl, hrn⟩
            refine JA.tkc 7 rfl (.none rfl) (fun _ => (Ev.assign rfl)) ?_
            exact JA.weak rfl (by kernel_rfl) (by exact Keeps.k) (by exact Sub.k) (hmid5 (0, rn) (by exact hrn))
          refine JAll.cons rfl ?_ ?_
          · -- 4
            refine JO.val rfl rfl rfl (.none rfl) (Ev.lB Tryd.underlying33 Tryd.sizeOf33) ?_
            exact JA.wk (hmid7 (bq, ⟨0, 0, #[]⟩) trivial)
          refine JAll.cons rfl ?_ JAll.nil
          refine JO.val rfl rfl rfl (.none rfl) (Ev.loadA (l := (nodeD (((ledC m (bel n) fr x q).2, y)).1 (((ledC m (bel n) fr x q).2, y)).2).1.map u8) rfl Tryd.underlying33 rfl Tryd.sizeOf33 (Rds.ntop (p := ((ledC m (bel n) fr x q).2, y)) memK) (by rw [List.length_map]; exact (nodeD (((ledC m (bel n) fr x q).2, y)).1 (((ledC m (bel n) fr x q).2, y)).2).2)) ?_
          exact JA.wk (hmid8 (bq, ⟨0, 0, #[]⟩) trivial)
        refine JA.mid (X := Nat × Row) (fun ⟨bq, rn⟩ => True) (fun ⟨bq, rn⟩ => [(71, .pointer (some ⟨b19, 0 + 64, none⟩)), (70, .agg (arr8 (ledC m (bel n) fr x q).1.1)), (67, .agg (nfl [((ledC m (bel n) fr x q).2, y)]).toArray), (66, Row.v (stepsN m (bel n) fr x q).length r1), (11, .pointer (some ⟨b11, 0, none⟩)), (12, .pointer (some ⟨b12, 0, none⟩)), (17, .pointer (some ⟨b17, 0, none⟩)), (19, .pointer (some ⟨b19, 0, none⟩))]) (fun ⟨bq, rn⟩ => ([(b19, Obj.cells (nfl [((ledC m (bel n) fr x q).2, y)]).toArray 123 (0, 0)), (b17, Obj.cells (arr8 (ledC m (bel n) fr x q).1.1) 33 (0, 0)), (b12, Obj.cells (arr8 (List.replicate 32 0)) 33 (0, 0)), (b11, Obj.cells (arr8 (List.replicate 32 0)) 33 (0, 0))] ++ Row.b 123 r1)) 6 #[true, true, false, false, true, true, false, false, false, false] ?_ (fun hmid11 => ?_)
        · -- state [0, 1, 4, 5]
          rintro ⟨bq, rn⟩ _
          refine JA.branch [2, 6] (by kernel_rfl) rfl ?_
          refine JAll.cons rfl ?_ ?_
          · -- 2
            refine JO.new rfl rfl rfl (.none rfl) (En.bs1N rfl Tryd.underlying78 Tryd.sizeOf123 Tryd.zeroValue123) (fun b68 hb68 => ?_)
            obtain ⟨bq, rfl⟩ : ∃ b, b = b68 := ⟨_, rfl⟩
            exact JA.wk (hmid7 (bq, ⟨0, 0, #[]⟩) trivial)
          refine JAll.cons rfl ?_ JAll.nil
          refine JO.val rfl rfl rfl (.none rfl) (Ev.loadA (l := (nodeD (((ledC m (bel n) fr x q).2, y)).1 (((ledC m (bel n) fr x q).2, y)).2).1.map u8) rfl Tryd.underlying33 rfl Tryd.sizeOf33 (Rds.ntop (p := ((ledC m (bel n) fr x q).2, y)) memK) (by rw [List.length_map]; exact (nodeD (((ledC m (bel n) fr x q).2, y)).1 (((ledC m (bel n) fr x q).2, y)).2).2)) ?_
          exact JA.wk (hmid9 (0, ⟨0, 0, #[]⟩) trivial)
        refine JA.mid (X := Nat × Row) (fun ⟨bq, rn⟩ => True) (fun ⟨bq, rn⟩ => [(72, .agg (arr8 (nodeD (ledC m (bel n) fr x q).2 y).1)), (71, .pointer (some ⟨b19, 0 + 64, none⟩)), (67, .agg (nfl [((ledC m (bel n) fr x q).2, y)]).toArray), (66, Row.v (stepsN m (bel n) fr x q).length r1), (11, .pointer (some ⟨b11, 0, none⟩)), (12, .pointer (some ⟨b12, 0, none⟩)), (17, .pointer (some ⟨b17, 0, none⟩)), (19, .pointer (some ⟨b19, 0, none⟩))]) (fun ⟨bq, rn⟩ => ([(b19, Obj.cells (nfl [((ledC m (bel n) fr x q).2, y)]).toArray 123 (0, 0)), (b17, Obj.cells (arr8 (ledC m (bel n) fr x q).1.1) 33 (0, 0)), (b12, Obj.cells (arr8 (List.replicate 32 0)) 33 (0, 0)), (b11, Obj.cells (arr8 (List.replicate 32 0)) 33 (0, 0))] ++ Row.b 123 r1)) 6 #[true, true, false, false, false, true, true, false, false, false] ?_ (fun hmid12 => ?_)
        · -- state [0, 1, 5, 6]
          rintro ⟨bq, rn⟩ _
          refine JA.branch [2, 4] (by kernel_rfl) rfl ?_
          refine JAll.cons rfl ?_ ?_
          · -- 2
            refine JO.new rfl rfl rfl (.none rfl) (En.bs1N rfl Tryd.underlying78 Tryd.sizeOf123 Tryd.zeroValue123) (fun b68 hb68 => ?_)
            obtain ⟨bq, rfl⟩ : ∃ b, b = b68 := ⟨_, rfl⟩
            exact JA.wk (hmid8 (bq, ⟨0, 0, #[]⟩) trivial)
          refine JAll.cons rfl ?_ JAll.nil
          refine JO.val rfl rfl rfl (.none rfl) (Ev.lB Tryd.underlying33 Tryd.sizeOf33) ?_
          exact JA.wk (hmid9 (0, ⟨0, 0, #[]⟩) trivial)
        refine JA.mid (X := Nat × Row) (fun ⟨bq, rn⟩ => True) (fun ⟨bq, rn⟩ => [(72, .agg (arr8 (nodeD (ledC m (bel n) fr x q).2 y).1)), (71, .pointer (some ⟨b19, 0 + 64, none⟩)), (70, .agg (arr8 (ledC m (bel n) fr x q).1.1)), (66, Row.v (stepsN m (bel n) fr x q).length r1), (11, .pointer (some ⟨b11, 0, none⟩)), (12, .pointer (some ⟨b12, 0, none⟩)), (17, .pointer (some ⟨b17, 0, none⟩)), (19, .pointer (some ⟨b19, 0, none⟩))]) (fun ⟨bq, rn⟩ => ([(b19, Obj.cells (nfl [((ledC m (bel n) fr x q).2, y)]).toArray 123 (0, 0)), (b17, Obj.cells (arr8 (ledC m (bel n) fr x q).1.1) 33 (0, 0)), (b12, Obj.cells (arr8 (List.replicate 32 0)) 33 (0, 0)), (b11, Obj.cells (arr8 (List.replicate 32 0)) 33 (0, 0))] ++ Row.b 123 r1)) 6 #[true, false, false, false, true, true, true, false, false, false] ?_ (fun hmid13 => ?_)
        · -- state [0, 4, 5, 6]
          rintro ⟨bq, rn⟩ _
          refine JA.one 1 ?_
          refine JO.val rfl rfl rfl (.none rfl) (Ev.loadB rfl memK Tryd.underlying123 rfl Tryd.sizeOf123 (nfl_size _)) ?_
          exact JA.wk (hmid9 (0, ⟨0, 0, #[]⟩) trivial)
        refine JA.mid (X := Nat × Row) (fun ⟨bq, rn⟩ => True) (fun ⟨bq, rn⟩ => [(71, .pointer (some ⟨b19, 0 + 64, none⟩)), (67, .agg (nfl [((ledC m (bel n) fr x q).2, y)]).toArray), (66, Row.v (stepsN m (bel n) fr x q).length r1), (11, .pointer (some ⟨b11, 0, none⟩)), (12, .pointer (some ⟨b12, 0, none⟩)), (17, .pointer (some ⟨b17, 0, none⟩)), (19, .pointer (some ⟨b19, 0, none⟩))]) (fun ⟨bq, rn⟩ => ([(b19, Obj.cells (nfl [((ledC m (bel n) fr x q).2, y)]).toArray 123 (0, 0)), (b17, Obj.cells (arr8 (ledC m (bel n) fr x q).1.1) 33 (0, 0)), (b12, Obj.cells (arr8 (List.replicate 32 0)) 33 (0, 0)), (b11, Obj.cells (arr8 (List.replicate 32 0)) 33 (0, 0))] ++ Row.b 123 r1)) 7 #[true, true, false, false, false, true, false, false, false, false] ?_ (fun hmid14 => ?_)
        · -- state [0, 1, 5]
          rintro ⟨bq, rn⟩ _
          refine JA.branch [2, 4, 6] (by kernel_rfl) rfl ?_
          refine JAll.cons rfl ?_ ?_
          · -- 2
            refine JO.new rfl rfl rfl (.none rfl) (En.bs1N rfl Tryd.underlying78 Tryd.sizeOf123 Tryd.zeroValue123) (fun b68 hb68 => ?_)
            obtain ⟨bq, rfl⟩ : ∃ b, b = b68 := ⟨_, rfl⟩
            exact JA.wk (hmid10 (bq, ⟨0, 0, #[]⟩) trivial)
          refine JAll.cons rfl ?_ ?_
          · -- 4
            refine JO.val rfl rfl rfl (.none rfl) (Ev.lB Tryd.underlying33 Tryd.sizeOf33) ?_
            exact JA.wk (hmid11 (0, ⟨0, 0, #[]⟩) trivial)
          refine JAll.cons rfl ?_ JAll.nil
          refine JO.val rfl rfl rfl (.none rfl) (Ev.loadA (l := (nodeD (((ledC m (bel n) fr x q).2, y)).1 (((ledC m (bel n) fr x q).2, y)).2).1.map u8) rfl Tryd.underlying33 rfl Tryd.sizeOf33 (Rds.ntop (p := ((ledC m (bel n) fr x q).2, y)) memK) (by rw [List.length_map]; exact (nodeD (((ledC m (bel n) fr x q).2, y)).1 (((ledC m (bel n) fr x q).2, y)).2).2)) ?_
          exact JA.wk (hmid12 (0, ⟨0, 0, #[]⟩) trivial)
        refine JA.mid (X := Nat × Row) (fun ⟨bq, rn⟩ => True) (fun ⟨bq, rn⟩ => [(71, .pointer (some ⟨b19, 0 + 64, none⟩)), (70, .agg (arr8 (ledC m (bel n) fr x q).1.1)), (66, Row.v (stepsN m (bel n) fr x q).length r1), (11, .pointer (some ⟨b11, 0, none⟩)), (12, .pointer (some ⟨b12, 0, none⟩)), (17, .pointer (some ⟨b17, 0, none⟩)), (19, .pointer (some ⟨b19, 0, none⟩))]) (fun ⟨bq, rn⟩ => ([(b19, Obj.cells (nfl [((ledC m (bel n) fr x q).2, y)]).toArray 123 (0, 0)), (b17, Obj.cells (arr8 (ledC m (bel n) fr x q).1.1) 33 (0, 0)), (b12, Obj.cells (arr8 (List.replicate 32 0)) 33 (0, 0)), (b11, Obj.cells (arr8 (List.replicate 32 0)) 33 (0, 0))] ++ Row.b 123 r1)) 7 #[true, false, false, false, true, true, false, false, false, false] ?_ (fun hmid15 => ?_)
        · -- state [0, 4, 5]
          rintro ⟨bq, rn⟩ _
          refine JA.branch [1, 6] (by kernel_rfl) rfl ?_
          refine JAll.cons rfl ?_ ?_
          · -- 1
            refine JO.val rfl rfl rfl (.none rfl) (Ev.loadB rfl memK Tryd.underlying123 rfl Tryd.sizeOf123 (nfl_size _)) ?_
            exact JA.wk (hmid11 (0, ⟨0, 0, #[]⟩) trivial)
          refine JAll.cons rfl ?_ JAll.nil
          refine JO.val rfl rfl rfl (.none rfl) (Ev.loadA (l := (nodeD (((ledC m (bel n) fr x q).2, y)).1 (((ledC m (bel n) fr x q).2, y)).2).1.map u8) rfl Tryd.underlying33 rfl Tryd.sizeOf33 (Rds.ntop (p := ((ledC m (bel n) fr x q).2, y)) memK) (by rw [List.length_map]; exact (nodeD (((ledC m (bel n) fr x q).2, y)).1 (((ledC m (bel n) fr x q).2, y)).2).2)) ?_
          exact JA.wk (hmid13 (0, ⟨0, 0, #[]⟩) trivial)
        refine JA.mid (X := Nat × Row) (fun ⟨bq, rn⟩ => True) (fun ⟨bq, rn⟩ => [(72, .agg (arr8 (nodeD (ledC m (bel n) fr x q).2 y).1)), (71, .pointer (some ⟨b19, 0 + 64, none⟩)), (66, Row.v (stepsN m (bel n) fr x q).length r1), (11, .pointer (some ⟨b11, 0, none⟩)), (12, .pointer (some ⟨b12, 0, none⟩)), (17, .pointer (some ⟨b17, 0, none⟩)), (19, .pointer (some ⟨b19, 0, none⟩))]) (fun ⟨bq, rn⟩ => ([(b19, Obj.cells (nfl [((ledC m (bel n) fr x q).2, y)]).toArray 123 (0, 0)), (b17, Obj.cells (arr8 (ledC m (bel n) fr x q).1.1) 33 (0, 0)), (b12, Obj.cells (arr8 (List.replicate 32 0)) 33 (0, 0)), (b11, Obj.cells (arr8 (List.replicate 32 0)) 33 (0, 0))] ++ Row.b 123 r1)) 7 #[true, false, false, false, false, true, true, false, false, false] ?_ (fun hmid16 => ?_)
        · -- state [0, 5, 6]
          rintro ⟨bq, rn⟩ _
          refine JA.branch [1, 4] (by kernel_rfl) rfl ?_
          refine JAll.cons rfl ?_ ?_
          · -- 1
            refine JO.val rfl rfl rfl (.none rfl) (Ev.loadB rfl memK Tryd.underlying123 rfl Tryd.sizeOf123 (nfl_size _)) ?_
            exact JA.wk (hmid12 (0, ⟨0, 0, #[]⟩) trivial)
          refine JAll.cons rfl ?_ JAll.nil
          refine JO.val rfl rfl rfl (.none rfl) (Ev.lB Tryd.underlying33 Tryd.sizeOf33) ?_
          exact JA.wk (hmid13 (0, ⟨0, 0, #[]⟩) trivial)
        refine JA.tkc 0 rfl (.none rfl) (fun _ => (Ev.move rfl)) ?_
        refine JA.tkc 5 rfl (.none rfl) (fun _ => (Ev.fld 64 rfl (fun _ _ => by kernel_rfl))) ?_
        refine JA.branch [1, 4, 6] (by kernel_rfl) rfl ?_
        refine JAll.cons rfl ?_ ?_
        · -- 1
          refine JO.val rfl rfl rfl (.none rfl) (Ev.loadB rfl memK Tryd.underlying123 rfl Tryd.sizeOf123 (nfl_size _)) ?_
          exact JA.wk (hmid14 (0, ⟨0, 0, #[]⟩) trivial)
        refine JAll.cons rfl ?_ ?_
        · -- 4
          refine JO.val rfl rfl rfl (.none rfl) (Ev.lB Tryd.underlying33 Tryd.sizeOf33) ?_
          exact JA.wk (hmid15 (0, ⟨0, 0, #[]⟩) trivial)
        refine JAll.cons rfl ?_ JAll.nil
        refine JO.val rfl rfl rfl (.none rfl) (Ev.loadA (l := (nodeD (((ledC m (bel n) fr x q).2, y)).1 (((ledC m (bel n) fr x q).2, y)).2).1.map u8) rfl Tryd.underlying33 rfl Tryd.sizeOf33 (Rds.ntop (p := ((ledC m (bel n) fr x q).2, y)) memK) (by rw [List.length_map]; exact (nodeD (((ledC m (bel n) fr x q).2, y)).1 (((ledC m (bel n) fr x q).2, y)).2).2)) ?_
        exact JA.wk (hmid16 (0, ⟨0, 0, #[]⟩) trivial)
      rintro ⟨rn, hrn⟩
      refine JQ.thenN ?_
      refine JC.ret ?_
      refine JQ.thenR ?_
      refine JQ.end3 (H' := (Row.b 123 (some rn))) (.inl rfl) rfl (.tmp rfl) (.agg rfl memK Tryd.underlying33 rfl Tryd.sizeOf33 szK) (.agg rfl memK Tryd.underlying33 rfl Tryd.sizeOf33 szK) ?_ ?_
      · first | exact Sub.all | exact Sub.nil | exact Sub.of_cnt (fun a => by (try dsimp only); simp only [cntA]; omega)
      · first | exact ⟨none, by rw [stepsN_top he, ledC_top he]; rfl, rfl, by rw [stepsN_top he]; exact Row.ok0⟩ | exact ⟨none, by rw [stepsN_top he, ledC_top he]; simp only [Bool.false_eq_true, if_false]; rw [hhd]; rfl, rfl, by rw [stepsN_top he]; exact Row.ok0⟩ | exact ⟨some rn, by rw [stepsN_left hm1 (by omega) hl, ledC_left hm1 (by omega) hl, List.length_append]; rfl, rfl, by rw [stepsN_left hm1 (by omega) hl, List.length_append, nfl_append]; exact hrn⟩ | exact ⟨some rn, by rw [stepsN_right hm1 (by omega) hl, ledC_right hm1 (by omega) hl, List.length_append]; rfl, rfl, by rw [stepsN_right hm1 (by omega) hl, List.length_append, nfl_append]; exact hrn⟩
    · -- t52 False
      replace hc2 := of_decide_eq_false hc2
      have hl : ¬ m ≤ bel n := by omega
      have hsq : q.length = stepsC (m - bel n) (n - bel n) false := by have := stepsC_right (fr := fr) hm1 (show m < n by omega) hl; omega
      have hpl := stepsN_le (n - bel n) (m - bel n) (n - bel n) false x q (Nat.le_refl _) (by omega) (by omega)
      refine JC.skip ?_
      refine JQ.thenN ?_
      refine JC.seq ?_
      refine JC.region ?_
      refine JL.mv ?_
      refine JL.mv ?_
      refine JL.val rfl rfl rfl (.none rfl) (Ev.cast (v' := .int .i64 ((m - bel n : Nat) : Int)) (congrArg (Value.int .i64) (by omega)) (Ev.bin rfl rfl (sub_i64 (by omega)))) ?_
      refine JL.mv ?_
      refine JL.mv ?_
      refine JL.val rfl rfl rfl (.none rfl) (Ev.cast (v' := .int .i64 ((n - bel n : Nat) : Int)) (congrArg (Value.int .i64) (by omega)) (Ev.bin rfl rfl (sub_i64 (by omega)))) ?_
      refine JL.val rfl rfl rfl (.none rfl) (Ev.lB Tryd.underlying33 Tryd.sizeOf33) ?_
      refine JL.mv ?_
      refine JL.callN rfl (.none rfl) rfl Tryd.call43 (fun w1 hw1 => ih x (m - bel n) (n - bel n) false (some a) cap q w1 (by omega) (by omega) (by omega) (Dl.init (hd.old hw1)) hsq (hk.old hw1) (hf.old hw1) (by omega)) ?_
      rintro _ _ ⟨r1, rfl, rfl, hr1⟩
      refine JL.mv ?_
      refine JL.val rfl rfl rfl (.none rfl) (Ev.ex0 rfl) ?_
      refine JL.val rfl rfl rfl (.none rfl) (Ev.ex1 rfl) ?_
      refine JL.val rfl rfl rfl (.none rfl) (Ev.ex2 rfl) ?_
      refine JL.new rfl rfl rfl (.none rfl) (En.allocZ (cs := arr8 (List.replicate 32 0)) Tryd.zeroValue33 rfl) (fun b21 hb21 => ?_)
      refine JL.new rfl rfl rfl (.none rfl) (En.allocZ (cs := arr8 (List.replicate 32 0)) Tryd.zeroValue33 rfl) (fun b22 hb22 => ?_)
      refine JL.asg ?_
      refine JL.sto rfl rfl (.none rfl) (Es.sA Tryd.sizeOf33) ?_
      refine JL.sto rfl rfl (.none rfl) (Es.sA Tryd.sizeOf33) ?_
      refine JL.nil ?_
      refine JQ.thenN ?_
      refine JC.seq ?_
      refine JC.cut (X := Nat × Nat) (fun ⟨b23, b24⟩ => [(11, .pointer (some ⟨b11, 0, none⟩)), (12, .pointer (some ⟨b12, 0, none⟩)), (20, Row.v (stepsN (m - bel n) (n - bel n) false x q).length r1), (23, .pointer (some ⟨b23, 0, none⟩)), (24, .pointer (some ⟨b24, 0, none⟩))]) (fun ⟨b23, b24⟩ => [(b24, Obj.cells (nfl [(y, (ledC (m - bel n) (n - bel n) false x q).2)]).toArray 123 (0, 0)), (b23, Obj.cells (nfl [(y, (ledC (m - bel n) (n - bel n) false x q).1)]).toArray 123 (0, 0)), (b12, Obj.cells (arr8 (List.replicate 32 0)) 33 (0, 0)), (b11, Obj.cells (arr8 (List.replicate 32 0)) 33 (0, 0))] ++ Row.b 123 r1) ?_ ?_
      · refine JC.regionA (by kernel_rfl) ?_
        refine JA.mid (X := Nat × Nat) (fun ⟨bu, bv⟩ => True) (fun ⟨bu, bv⟩ => [(24, .pointer (some ⟨bv, 0, none⟩)), (23, .pointer (some ⟨bu, 0, none⟩)), (91, .agg (nfl [(y, (ledC (m - bel n) (n - bel n) false x q).2)]).toArray), (88, .agg (nfl [(y, (ledC (m - bel n) (n - bel n) false x q).1)]).toArray), (11, .pointer (some ⟨b11, 0, none⟩)), (12, .pointer (some ⟨b12, 0, none⟩)), (15, .pointer (some ⟨b15, 0, none⟩)), (21, .pointer (some ⟨b21, 0, none⟩)), (22, .pointer (some ⟨b22, 0, none⟩)), (20, Row.v (stepsN (m - bel n) (n - bel n) false x q).length r1)]) (fun ⟨bu, bv⟩ => ([(bv, Obj.cells (fl [zeroD, zeroD, zeroD]).toArray 123 (0, 0)), (bu, Obj.cells (nfl [(y, (ledC (m - bel n) (n - bel n) false x q).1)]).toArray 123 (0, 0)), (b22, Obj.cells (arr8 (ledC (m - bel n) (n - bel n) false x q).2.1) 33 (0, 0)), (b21, Obj.cells (arr8 (ledC (m - bel n) (n - bel n) false x q).1.1) 33 (0, 0)), (b15, Obj.cells (arr8 y.1) 33 (0, 0)), (b12, Obj.cells (arr8 (List.replicate 32 0)) 33 (0, 0)), (b11, Obj.cells (arr8 (List.replicate 32 0)) 33 (0, 0))] ++ Row.b 123 r1)) 1 #[true, true, true, true, true, true, true, true, true, false] ?_ (fun hmid0 => ?_)
        · -- state [0, 1, 2, 3, 4, 5, 6, 7, 8]
          rintro ⟨bu, bv⟩ _
          refine JA.one 9 ?_
          refine JO.sto rfl rfl (.none rfl) (Es.storeA rfl rfl Tryd.sizeOf123 Upd.k (nfl_size _) (by rw [List.size_toArray, fl_length]; rfl) (fun u hu => nfl_one _ u hu)) ?_
          refine JA.done (by kernel_rfl) ?_
          refine JQ.cutN (bu, bv) ?_ ?_
          · exact Keeps.k
          · exact Sub.k
        refine JA.mid (X := Nat × Nat) (fun ⟨bu, bv⟩ => True) (fun ⟨bu, bv⟩ => [(24, .pointer (some ⟨bv, 0, none⟩)), (23, .pointer (some ⟨bu, 0, none⟩)), (91, .agg (nfl [(y, (ledC (m - bel n) (n - bel n) false x q).2)]).toArray), (88, .agg (nfl [(y, (ledC (m - bel n) (n - bel n) false x q).1)]).toArray), (11, .pointer (some ⟨b11, 0, none⟩)), (12, .pointer (some ⟨b12, 0, none⟩)), (15, .pointer (some ⟨b15, 0, none⟩)), (21, .pointer (some ⟨b21, 0, none⟩)), (22, .pointer (some ⟨b22, 0, none⟩)), (20, Row.v (stepsN (m - bel n) (n - bel n) false x q).length r1)]) (fun ⟨bu, bv⟩ => ([(bv, Obj.cells (fl [zeroD, zeroD, zeroD]).toArray 123 (0, 0)), (bu, Obj.cells (fl [zeroD, zeroD, zeroD]).toArray 123 (0, 0)), (b22, Obj.cells (arr8 (ledC (m - bel n) (n - bel n) false x q).2.1) 33 (0, 0)), (b21, Obj.cells (arr8 (ledC (m - bel n) (n - bel n) false x q).1.1) 33 (0, 0)), (b15, Obj.cells (arr8 y.1) 33 (0, 0)), (b12, Obj.cells (arr8 (List.replicate 32 0)) 33 (0, 0)), (b11, Obj.cells (arr8 (List.replicate 32 0)) 33 (0, 0))] ++ Row.b 123 r1)) 2 #[true, true, true, true, true, true, true, true, false, false] ?_ (fun hmid1 => ?_)
        · -- state [0, 1, 2, 3, 4, 5, 6, 7]
          rintro ⟨bu, bv⟩ _
          refine JA.one 8 ?_
          refine JO.sto rfl rfl (.none rfl) (Es.storeA rfl rfl Tryd.sizeOf123 Upd.k (nfl_size _) (by rw [List.size_toArray, fl_length]; rfl) (fun u hu => nfl_one _ u hu)) ?_
          exact JA.wk (hmid0 (bu, bv) trivial)
        refine JA.mid (X := Nat × Nat) (fun ⟨bu, bv⟩ => True) (fun ⟨bu, bv⟩ => [(23, .pointer (some ⟨bu, 0, none⟩)), (91, .agg (nfl [(y, (ledC (m - bel n) (n - bel n) false x q).2)]).toArray), (88, .agg (nfl [(y, (ledC (m - bel n) (n - bel n) false x q).1)]).toArray), (11, .pointer (some ⟨b11, 0, none⟩)), (12, .pointer (some ⟨b12, 0, none⟩)), (15, .pointer (some ⟨b15, 0, none⟩)), (21, .pointer (some ⟨b21, 0, none⟩)), (22, .pointer (some ⟨b22, 0, none⟩)), (20, Row.v (stepsN (m - bel n) (n - bel n) false x q).length r1)]) (fun ⟨bu, bv⟩ => ([(bu, Obj.cells (fl [zeroD, zeroD, zeroD]).toArray 123 (0, 0)), (b22, Obj.cells (arr8 (ledC (m - bel n) (n - bel n) false x q).2.1) 33 (0, 0)), (b21, Obj.cells (arr8 (ledC (m - bel n) (n - bel n) false x q).1.1) 33 (0, 0)), (b15, Obj.cells (arr8 y.1) 33 (0, 0)), (b12, Obj.cells (arr8 (List.replicate 32 0)) 33 (0, 0)), (b11, Obj.cells (arr8 (List.replicate 32 0)) 33 (0, 0))] ++ Row.b 123 r1)) 3 #[true, true, true, true, true, true, true, false, false, false] ?_ (fun hmid2 => ?_)
        · -- state [0, 1, 2, 3, 4, 5, 6]
          rintro ⟨bu, bv⟩ _
          refine JA.one 7 ?_
          refine JO.new rfl rfl rfl (.none rfl) (En.allocZ (cs := (fl [zeroD, zeroD, zeroD]).toArray) Tryd.zeroValue123 rfl) (fun b24 hb24 => ?_)
          obtain ⟨bv, rfl⟩ : ∃ b, b = b24 := ⟨_, rfl⟩
          exact JA.wk (hmid1 (bu, bv) trivial)
        refine JA.mid (X := Nat × Nat) (fun ⟨bu, bv⟩ => True) (fun ⟨bu, bv⟩ => [(24, .pointer (some ⟨bv, 0, none⟩)), (91, .agg (nfl [(y, (ledC (m - bel n) (n - bel n) false x q).2)]).toArray), (88, .agg (nfl [(y, (ledC (m - bel n) (n - bel n) false x q).1)]).toArray), (11, .pointer (some ⟨b11, 0, none⟩)), (12, .pointer (some ⟨b12, 0, none⟩)), (15, .pointer (some ⟨b15, 0, none⟩)), (21, .pointer (some ⟨b21, 0, none⟩)), (22, .pointer (some ⟨b22, 0, none⟩)), (20, Row.v (stepsN (m - bel n) (n - bel n) false x q).length r1)]) (fun ⟨bu, bv⟩ => ([(bv, Obj.cells (fl [zeroD, zeroD, zeroD]).toArray 123 (0, 0)), (b22, Obj.cells (arr8 (ledC (m - bel n) (n - bel n) false x q).2.1) 33 (0, 0)), (b21, Obj.cells (arr8 (ledC (m - bel n) (n - bel n) false x q).1.1) 33 (0, 0)), (b15, Obj.cells (arr8 y.1) 33 (0, 0)), (b12, Obj.cells (arr8 (List.replicate 32 0)) 33 (0, 0)), (b11, Obj.cells (arr8 (List.replicate 32 0)) 33 (0, 0))] ++ Row.b 123 r1)) 3 #[true, true, true, true, true, true, false, true, false, false] ?_ (fun hmid3 => ?_)
        · -- state [0, 1, 2, 3, 4, 5, 7]
          rintro ⟨bu, bv⟩ _
          refine JA.one 6 ?_
          refine JO.new rfl rfl rfl (.none rfl) (En.allocZ (cs := (fl [zeroD, zeroD, zeroD]).toArray) Tryd.zeroValue123 rfl) (fun b23 hb23 => ?_)
          obtain ⟨bu, rfl⟩ : ∃ b, b = b23 := ⟨_, rfl⟩
          exact JA.wk (hmid1 (bu, bv) trivial)
        refine JA.mid (X := Nat × Nat) (fun ⟨bu, bv⟩ => True) (fun ⟨bu, bv⟩ => [(24, .pointer (some ⟨bv, 0, none⟩)), (23, .pointer (some ⟨bu, 0, none⟩)), (90, .agg (arr8 (ledC (m - bel n) (n - bel n) false x q).2.1)), (89, .agg (arr8 y.1)), (88, .agg (nfl [(y, (ledC (m - bel n) (n - bel n) false x q).1)]).toArray), (11, .pointer (some ⟨b11, 0, none⟩)), (12, .pointer (some ⟨b12, 0, none⟩)), (15, .pointer (some ⟨b15, 0, none⟩)), (21, .pointer (some ⟨b21, 0, none⟩)), (22, .pointer (some ⟨b22, 0, none⟩)), (20, Row.v (stepsN (m - bel n) (n - bel n) false x q).length r1)]) (fun ⟨bu, bv⟩ => ([(bv, Obj.cells (fl [zeroD, zeroD, zeroD]).toArray 123 (0, 0)), (bu, Obj.cells (fl [zeroD, zeroD, zeroD]).toArray 123 (0, 0)), (b22, Obj.cells (arr8 (ledC (m - bel n) (n - bel n) false x q).2.1) 33 (0, 0)), (b21, Obj.cells (arr8 (ledC (m - bel n) (n - bel n) false x q).1.1) 33 (0, 0)), (b15, Obj.cells (arr8 y.1) 33 (0, 0)), (b12, Obj.cells (arr8 (List.replicate 32 0)) 33 (0, 0)), (b11, Obj.cells (arr8 (List.replicate 32 0)) 33 (0, 0))] ++ Row.b 123 r1)) 3 #[true, true, true, true, true, false, true, true, false, false] ?_ (fun hmid4 => ?_)
        · -- state [0, 1, 2, 3, 4, 6, 7]
          rintro ⟨bu, bv⟩ _
          refine JA.one 5 ?_
          refine JO.callV rfl (.none rfl) rfl Tryd.call80 (fun w1 hw1 => fpair_any y (ledC (m - bel n) (n - bel n) false x q).2 w1 (hk.old hw1) (hf.old hw1)) ?_
          exact JA.wk (hmid1 (bu, bv) trivial)
        refine JA.mid (X := Nat × Nat) (fun ⟨bu, bv⟩ => True) (fun ⟨bu, bv⟩ => [(91, .agg (nfl [(y, (ledC (m - bel n) (n - bel n) false x q).2)]).toArray), (88, .agg (nfl [(y, (ledC (m - bel n) (n - bel n) false x q).1)]).toArray), (11, .pointer (some ⟨b11, 0, none⟩)), (12, .pointer (some ⟨b12, 0, none⟩)), (15, .pointer (some ⟨b15, 0, none⟩)), (21, .pointer (some ⟨b21, 0, none⟩)), (22, .pointer (some ⟨b22, 0, none⟩)), (20, Row.v (stepsN (m - bel n) (n - bel n) false x q).length r1)]) (fun ⟨bu, bv⟩ => ([(b22, Obj.cells (arr8 (ledC (m - bel n) (n - bel n) false x q).2.1) 33 (0, 0)), (b21, Obj.cells (arr8 (ledC (m - bel n) (n - bel n) false x q).1.1) 33 (0, 0)), (b15, Obj.cells (arr8 y.1) 33 (0, 0)), (b12, Obj.cells (arr8 (List.replicate 32 0)) 33 (0, 0)), (b11, Obj.cells (arr8 (List.replicate 32 0)) 33 (0, 0))] ++ Row.b 123 r1)) 4 #[true, true, true, true, true, true, false, false, false, false] ?_ (fun hmid5 => ?_)
        · -- state [0, 1, 2, 3, 4, 5]
          rintro ⟨bu, bv⟩ _
          refine JA.branch [6, 7] (by kernel_rfl) rfl ?_
          refine JAll.cons rfl ?_ ?_
          · -- 6
            refine JO.new rfl rfl rfl (.none rfl) (En.allocZ (cs := (fl [zeroD, zeroD, zeroD]).toArray) Tryd.zeroValue123 rfl) (fun b23 hb23 => ?_)
            obtain ⟨bu, rfl⟩ : ∃ b, b = b23 := ⟨_, rfl⟩
            exact JA.wk (hmid2 (bu, 0) trivial)
          refine JAll.cons rfl ?_ JAll.nil
          refine JO.new rfl rfl rfl (.none rfl) (En.allocZ (cs := (fl [zeroD, zeroD, zeroD]).toArray) Tryd.zeroValue123 rfl) (fun b24 hb24 => ?_)
          obtain ⟨bv, rfl⟩ : ∃ b, b = b24 := ⟨_, rfl⟩
          exact JA.wk (hmid3 (0, bv) trivial)
        refine JA.mid (X := Nat × Nat) (fun ⟨bu, bv⟩ => True) (fun ⟨bu, bv⟩ => [(23, .pointer (some ⟨bu, 0, none⟩)), (90, .agg (arr8 (ledC (m - bel n) (n - bel n) false x q).2.1)), (89, .agg (arr8 y.1)), (88, .agg (nfl [(y, (ledC (m - bel n) (n - bel n) false x q).1)]).toArray), (11, .pointer (some ⟨b11, 0, none⟩)), (12, .pointer (some ⟨b12, 0, none⟩)), (15, .pointer (some ⟨b15, 0, none⟩)), (21, .pointer (some ⟨b21, 0, none⟩)), (22, .pointer (some ⟨b22, 0, none⟩)), (20, Row.v (stepsN (m - bel n) (n - bel n) false x q).length r1)]) (fun ⟨bu, bv⟩ => ([(bu, Obj.cells (fl [zeroD, zeroD, zeroD]).toArray 123 (0, 0)), (b22, Obj.cells (arr8 (ledC (m - bel n) (n - bel n) false x q).2.1) 33 (0, 0)), (b21, Obj.cells (arr8 (ledC (m - bel n) (n - bel n) false x q).1.1) 33 (0, 0)), (b15, Obj.cells (arr8 y.1) 33 (0, 0)), (b12, Obj.cells (arr8 (List.replicate 32 0)) 33 (0, 0)), (b11, Obj.cells (arr8 (List.replicate 32 0)) 33 (0, 0))] ++ Row.b 123 r1)) 4 #[true, true, true, true, true, false, true, false, false, false] ?_ (fun hmid6 => ?_)
        · -- state [0, 1, 2, 3, 4, 6]
          rintro ⟨bu, bv⟩ _
          refine JA.branch [5, 7] (by kernel_rfl) rfl ?_
          refine JAll.cons rfl ?_ ?_
          · -- 5
            refine JO.callV rfl (.none rfl) rfl Tryd.call80 (fun w1 hw1 => fpair_any y (ledC (m - bel n) (n - bel n) false x q).2 w1 (hk.old hw1) (hf.old hw1)) ?_
            exact JA.wk (hmid2 (bu, 0) trivial)
          refine JAll.cons rfl ?_ JAll.nil
          refine JO.new rfl rfl rfl (.none rfl) (En.allocZ (cs := (fl [zeroD, zeroD, zeroD]).toArray) Tryd.zeroValue123 rfl) (fun b24 hb24 => ?_)
          obtain ⟨bv, rfl⟩ : ∃ b, b = b24 := ⟨_, rfl⟩
          exact JA.wk (hmid4 (bu, bv) trivial)
        refine JA.mid (X := Nat × Nat) (fun ⟨bu, bv⟩ => True) (fun ⟨bu, bv⟩ => [(24, .pointer (some ⟨bv, 0, none⟩)), (90, .agg (arr8 (ledC (m - bel n) (n - bel n) false x q).2.1)), (89, .agg (arr8 y.1)), (88, .agg (nfl [(y, (ledC (m - bel n) (n - bel n) false x q).1)]).toArray), (11, .pointer (some ⟨b11, 0, none⟩)), (12, .pointer (some ⟨b12, 0, none⟩)), (15, .pointer (some ⟨b15, 0, none⟩)), (21, .pointer (some ⟨b21, 0, none⟩)), (22, .pointer (some ⟨b22, 0, none⟩)), (20, Row.v (stepsN (m - bel n) (n - bel n) false x q).length r1)]) (fun ⟨bu, bv⟩ => ([(bv, Obj.cells (fl [zeroD, zeroD, zeroD]).toArray 123 (0, 0)), (b22, Obj.cells (arr8 (ledC (m - bel n) (n - bel n) false x q).2.1) 33 (0, 0)), (b21, Obj.cells (arr8 (ledC (m - bel n) (n - bel n) false x q).1.1) 33 (0, 0)), (b15, Obj.cells (arr8 y.1) 33 (0, 0)), (b12, Obj.cells (arr8 (List.replicate 32 0)) 33 (0, 0)), (b11, Obj.cells (arr8 (List.replicate 32 0)) 33 (0, 0))] ++ Row.b 123 r1)) 4 #[true, true, true, true, true, false, false, true, false, false] ?_ (fun hmid7 => ?_)
        · -- state [0, 1, 2, 3, 4, 7]
          rintro ⟨bu, bv⟩ _
          refine JA.branch [5, 6] (by kernel_rfl) rfl ?_
          refine JAll.cons rfl ?_ ?_
          · -- 5
            refine JO.callV rfl (.none rfl) rfl Tryd.call80 (fun w1 hw1 => fpair_any y (ledC (m - bel n) (n - bel n) false x q).2 w1 (hk.old hw1) (hf.old hw1)) ?_
            exact JA.wk (hmid3 (0, bv) trivial)
          refine JAll.cons rfl ?_ JAll.nil
          refine JO.new rfl rfl rfl (.none rfl) (En.allocZ (cs := (fl [zeroD, zeroD, zeroD]).toArray) Tryd.zeroValue123 rfl) (fun b23 hb23 => ?_)
          obtain ⟨bu, rfl⟩ : ∃ b, b = b23 := ⟨_, rfl⟩
          exact JA.wk (hmid4 (bu, bv) trivial)
        refine JA.mid (X := Nat × Nat) (fun ⟨bu, bv⟩ => True) (fun ⟨bu, bv⟩ => [(24, .pointer (some ⟨bv, 0, none⟩)), (23, .pointer (some ⟨bu, 0, none⟩)), (89, .agg (arr8 y.1)), (88, .agg (nfl [(y, (ledC (m - bel n) (n - bel n) false x q).1)]).toArray), (11, .pointer (some ⟨b11, 0, none⟩)), (12, .pointer (some ⟨b12, 0, none⟩)), (15, .pointer (some ⟨b15, 0, none⟩)), (21, .pointer (some ⟨b21, 0, none⟩)), (22, .pointer (some ⟨b22, 0, none⟩)), (20, Row.v (stepsN (m - bel n) (n - bel n) false x q).length r1)]) (fun ⟨bu, bv⟩ => ([(bv, Obj.cells (fl [zeroD, zeroD, zeroD]).toArray 123 (0, 0)), (bu, Obj.cells (fl [zeroD, zeroD, zeroD]).toArray 123 (0, 0)), (b22, Obj.cells (arr8 (ledC (m - bel n) (n - bel n) false x q).2.1) 33 (0, 0)), (b21, Obj.cells (arr8 (ledC (m - bel n) (n - bel n) false x q).1.1) 33 (0, 0)), (b15, Obj.cells (arr8 y.1) 33 (0, 0)), (b12, Obj.cells (arr8 (List.replicate 32 0)) 33 (0, 0)), (b11, Obj.cells (arr8 (List.replicate 32 0)) 33 (0, 0))] ++ Row.b 123 r1)) 4 #[true, true, true, true, false, false, true, true, false, false] ?_ (fun hmid8 => ?_)
        · -- state [0, 1, 2, 3, 6, 7]
          rintro ⟨bu, bv⟩ _
          refine JA.one 4 ?_
          refine JO.val rfl rfl rfl (.none rfl) (Ev.lB Tryd.underlying33 Tryd.sizeOf33) ?_
          exact JA.wk (hmid4 (bu, bv) trivial)
        refine JA.mid (X := Nat × Nat) (fun ⟨bu, bv⟩ => True) (fun ⟨bu, bv⟩ => [(24, .pointer (some ⟨bv, 0, none⟩)), (23, .pointer (some ⟨bu, 0, none⟩)), (90, .agg (arr8 (ledC (m - bel n) (n - bel n) false x q).2.1)), (88, .agg (nfl [(y, (ledC (m - bel n) (n - bel n) false x q).1)]).toArray), (11, .pointer (some ⟨b11, 0, none⟩)), (12, .pointer (some ⟨b12, 0, none⟩)), (15, .pointer (some ⟨b15, 0, none⟩)), (21, .pointer (some ⟨b21, 0, none⟩)), (22, .pointer (some ⟨b22, 0, none⟩)), (20, Row.v (stepsN (m - bel n) (n - bel n) false x q).length r1)]) (fun ⟨bu, bv⟩ => ([(bv, Obj.cells (fl [zeroD, zeroD, zeroD]).toArray 123 (0, 0)), (bu, Obj.cells (fl [zeroD, zeroD, zeroD]).toArray 123 (0, 0)), (b22, Obj.cells (arr8 (ledC (m - bel n) (n - bel n) false x q).2.1) 33 (0, 0)), (b21, Obj.cells (arr8 (ledC (m - bel n) (n - bel n) false x q).1.1) 33 (0, 0)), (b15, Obj.cells (arr8 y.1) 33 (0, 0)), (b12, Obj.cells (arr8 (List.replicate 32 0)) 33 (0, 0)), (b11, Obj.cells (arr8 (List.replicate 32 0)) 33 (0, 0))] ++ Row.b 123 r1)) 4 #[true, true, true, false, true, false, true, true, false, false] ?_ (fun hmid9 => ?_)
        · -- state [0, 1, 2, 4, 6, 7]
          rintro ⟨bu, bv⟩ _
          refine JA.one 3 ?_
          refine JO.val rfl rfl rfl (.none rfl) (Ev.lB Tryd.underlying33 Tryd.sizeOf33) ?_
          exact JA.wk (hmid4 (bu, bv) trivial)
        refine JA.mid (X := Nat × Nat) (fun ⟨bu, bv⟩ => True) (fun ⟨bu, bv⟩ => [(24, .pointer (some ⟨bv, 0, none⟩)), (23, .pointer (some ⟨bu, 0, none⟩)), (90, .agg (arr8 (ledC (m - bel n) (n - bel n) false x q).2.1)), (89, .agg (arr8 y.1)), (87, .agg (arr8 (ledC (m - bel n) (n - bel n) false x q).1.1)), (86, .agg (arr8 y.1)), (11, .pointer (some ⟨b11, 0, none⟩)), (12, .pointer (some ⟨b12, 0, none⟩)), (15, .pointer (some ⟨b15, 0, none⟩)), (21, .pointer (some ⟨b21, 0, none⟩)), (22, .pointer (some ⟨b22, 0, none⟩)), (20, Row.v (stepsN (m - bel n) (n - bel n) false x q).length r1)]) (fun ⟨bu, bv⟩ => ([(bv, Obj.cells (fl [zeroD, zeroD, zeroD]).toArray 123 (0, 0)), (bu, Obj.cells (fl [zeroD, zeroD, zeroD]).toArray 123 (0, 0)), (b22, Obj.cells (arr8 (ledC (m - bel n) (n - bel n) false x q).2.1) 33 (0, 0)), (b21, Obj.cells (arr8 (ledC (m - bel n) (n - bel n) false x q).1.1) 33 (0, 0)), (b15, Obj.cells (arr8 y.1) 33 (0, 0)), (b12, Obj.cells (arr8 (List.replicate 32 0)) 33 (0, 0)), (b11, Obj.cells (arr8 (List.replicate 32 0)) 33 (0, 0))] ++ Row.b 123 r1)) 4 #[true, true, false, true, true, false, true, true, false, false] ?_ (fun hmid10 => ?_)
        · -- state [0, 1, 3, 4, 6, 7]
          rintro ⟨bu, bv⟩ _
          refine JA.one 2 ?_
          refine JO.callV rfl (.none rfl) rfl Tryd.call80 (fun w1 hw1 => fpair_any y (ledC (m - bel n) (n - bel n) false x q).1 w1 (hk.old hw1) (hf.old hw1)) ?_
          exact JA.wk (hmid4 (bu, bv) trivial)
        refine JA.mid (X := Nat × Nat) (fun ⟨bu, bv⟩ => True) (fun ⟨bu, bv⟩ => [(90, .agg (arr8 (ledC (m - bel n) (n - bel n) false x q).2.1)), (89, .agg (arr8 y.1)), (88, .agg (nfl [(y, (ledC (m - bel n) (n - bel n) false x q).1)]).toArray), (11, .pointer (some ⟨b11, 0, none⟩)), (12, .pointer (some ⟨b12, 0, none⟩)), (15, .pointer (some ⟨b15, 0, none⟩)), (21, .pointer (some ⟨b21, 0, none⟩)), (22, .pointer (some ⟨b22, 0, none⟩)), (20, Row.v (stepsN (m - bel n) (n - bel n) false x q).length r1)]) (fun ⟨bu, bv⟩ => ([(b22, Obj.cells (arr8 (ledC (m - bel n) (n - bel n) false x q).2.1) 33 (0, 0)), (b21, Obj.cells (arr8 (ledC (m - bel n) (n - bel n) false x q).1.1) 33 (0, 0)), (b15, Obj.cells (arr8 y.1) 33 (0, 0)), (b12, Obj.cells (arr8 (List.replicate 32 0)) 33 (0, 0)), (b11, Obj.cells (arr8 (List.replicate 32 0)) 33 (0, 0))] ++ Row.b 123 r1)) 5 #[true, true, true, true, true, false, false, false, false, false] ?_ (fun hmid11 => ?_)
        · -- state [0, 1, 2, 3, 4]
          rintro ⟨bu, bv⟩ _
          refine JA.branch [5, 6, 7] (by kernel_rfl) rfl ?_
          refine JAll.cons rfl ?_ ?_
          · -- 5
            refine JO.callV rfl (.none rfl) rfl Tryd.call80 (fun w1 hw1 => fpair_any y (ledC (m - bel n) (n - bel n) false x q).2 w1 (hk.old hw1) (hf.old hw1)) ?_
            exact JA.wk (hmid5 (0, 0) trivial)
          refine JAll.cons rfl ?_ ?_
          · -- 6
            refine JO.new rfl rfl rfl (.none rfl) (En.allocZ (cs := (fl [zeroD, zeroD, zeroD]).toArray) Tryd.zeroValue123 rfl) (fun b23 hb23 => ?_)
            obtain ⟨bu, rfl⟩ : ∃ b, b = b23 := ⟨_, rfl⟩
            exact JA.wk (hmid6 (bu, 0) trivial)
          refine JAll.cons rfl ?_ JAll.nil
          refine JO.new rfl rfl rfl (.none rfl) (En.allocZ (cs := (fl [zeroD, zeroD, zeroD]).toArray) Tryd.zeroValue123 rfl) (fun b24 hb24 => ?_)
          obtain ⟨bv, rfl⟩ : ∃ b, b = b24 := ⟨_, rfl⟩
          exact JA.wk (hmid7 (0, bv) trivial)
        refine JA.mid (X := Nat × Nat) (fun ⟨bu, bv⟩ => True) (fun ⟨bu, bv⟩ => [(23, .pointer (some ⟨bu, 0, none⟩)), (89, .agg (arr8 y.1)), (88, .agg (nfl [(y, (ledC (m - bel n) (n - bel n) false x q).1)]).toArray), (11, .pointer (some ⟨b11, 0, none⟩)), (12, .pointer (some ⟨b12, 0, none⟩)), (15, .pointer (some ⟨b15, 0, none⟩)), (21, .pointer (some ⟨b21, 0, none⟩)), (22, .pointer (some ⟨b22, 0, none⟩)), (20, Row.v (stepsN (m - bel n) (n - bel n) false x q).length r1)]) (fun ⟨bu, bv⟩ => ([(bu, Obj.cells (fl [zeroD, zeroD, zeroD]).toArray 123 (0, 0)), (b22, Obj.cells (arr8 (ledC (m - bel n) (n - bel n) false x q).2.1) 33 (0, 0)), (b21, Obj.cells (arr8 (ledC (m - bel n) (n - bel n) false x q).1.1) 33 (0, 0)), (b15, Obj.cells (arr8 y.1) 33 (0, 0)), (b12, Obj.cells (arr8 (List.replicate 32 0)) 33 (0, 0)), (b11, Obj.cells (arr8 (List.replicate 32 0)) 33 (0, 0))] ++ Row.b 123 r1)) 5 #[true, true, true, true, false, false, true, false, false, false] ?_ (fun hmid12 => ?_)
        · -- state [0, 1, 2, 3, 6]
          rintro ⟨bu, bv⟩ _
          refine JA.branch [4, 7] (by kernel_rfl) rfl ?_
          refine JAll.cons rfl ?_ ?_
          · -- 4
            refine JO.val rfl rfl rfl (.none rfl) (Ev.lB Tryd.underlying33 Tryd.sizeOf33) ?_
            exact JA.wk (hmid6 (bu, 0) trivial)
          refine JAll.cons rfl ?_ JAll.nil
          refine JO.new rfl rfl rfl (.none rfl) (En.allocZ (cs := (fl [zeroD, zeroD, zeroD]).toArray) Tryd.zeroValue123 rfl) (fun b24 hb24 => ?_)
          obtain ⟨bv, rfl⟩ : ∃ b, b = b24 := ⟨_, rfl⟩
          exact JA.wk (hmid8 (bu, bv) trivial)
        refine JA.mid (X := Nat × Nat) (fun ⟨bu, bv⟩ => True) (fun ⟨bu, bv⟩ => [(24, .pointer (some ⟨bv, 0, none⟩)), (89, .agg (arr8 y.1)), (88, .agg (nfl [(y, (ledC (m - bel n) (n - bel n) false x q).1)]).toArray), (11, .pointer (some ⟨b11, 0, none⟩)), (12, .pointer (some ⟨b12, 0, none⟩)), (15, .pointer (some ⟨b15, 0, none⟩)), (21, .pointer (some ⟨b21, 0, none⟩)), (22, .pointer (some ⟨b22, 0, none⟩)), (20, Row.v (stepsN (m - bel n) (n - bel n) false x q).length r1)]) (fun ⟨bu, bv⟩ => ([(bv, Obj.cells (fl [zeroD, zeroD, zeroD]).toArray 123 (0, 0)), (b22, Obj.cells (arr8 (ledC (m - bel n) (n - bel n) false x q).2.1) 33 (0, 0)), (b21, Obj.cells (arr8 (ledC (m - bel n) (n - bel n) false x q).1.1) 33 (0, 0)), (b15, Obj.cells (arr8 y.1) 33 (0, 0)), (b12, Obj.cells (arr8 (List.replicate 32 0)) 33 (0, 0)), (b11, Obj.cells (arr8 (List.replicate 32 0)) 33 (0, 0))] ++ Row.b 123 r1)) 5 #[true, true, true, true, false, false, false, true, false, false] ?_ (fun hmid13 => ?_)
        · -- state [0, 1, 2, 3, 7]
          rintro ⟨bu, bv⟩ _
          refine JA.branch [4, 6] (by kernel_rfl) rfl ?_
          refine JAll.cons rfl ?_ ?_
          · -- 4
            refine JO.val rfl rfl rfl (.none rfl) (Ev.lB Tryd.underlying33 Tryd.sizeOf33) ?_
            exact JA.wk (hmid7 (0, bv) trivial)
          refine JAll.cons rfl ?_ JAll.nil
          refine JO.new rfl rfl rfl (.none rfl) (En.allocZ (cs := (fl [zeroD, zeroD, zeroD]).toArray) Tryd.zeroValue123 rfl) (fun b23 hb23 => ?_)
          obtain ⟨bu, rfl⟩ : ∃ b, b = b23 := ⟨_, rfl⟩
          exact JA.wk (hmid8 (bu, bv) trivial)
        refine JA.mid (X := Nat × Nat) (fun ⟨bu, bv⟩ => True) (fun ⟨bu, bv⟩ => [(23, .pointer (some ⟨bu, 0, none⟩)), (90, .agg (arr8 (ledC (m - bel n) (n - bel n) false x q).2.1)), (88, .agg (nfl [(y, (ledC (m - bel n) (n - bel n) false x q).1)]).toArray), (11, .pointer (some ⟨b11, 0, none⟩)), (12, .pointer (some ⟨b12, 0, none⟩)), (15, .pointer (some ⟨b15, 0, none⟩)), (21, .pointer (some ⟨b21, 0, none⟩)), (22, .pointer (some ⟨b22, 0, none⟩)), (20, Row.v (stepsN (m - bel n) (n - bel n) false x q).length r1)]) (fun ⟨bu, bv⟩ => ([(bu, Obj.cells (fl [zeroD, zeroD, zeroD]).toArray 123 (0, 0)), (b22, Obj.cells (arr8 (ledC (m - bel n) (n - bel n) false x q).2.1) 33 (0, 0)), (b21, Obj.cells (arr8 (ledC (m - bel n) (n - bel n) false x q).1.1) 33 (0, 0)), (b15, Obj.cells (arr8 y.1) 33 (0, 0)), (b12, Obj.cells (arr8 (List.replicate 32 0)) 33 (0, 0)), (b11, Obj.cells (arr8 (List.replicate 32 0)) 33 (0, 0))] ++ Row.b 123 r1)) 5 #[true, true, true, false, true, false, true, false, false, false] ?_ (fun hmid14 => ?_)
        · -- state [0, 1, 2, 4, 6]
          rintro ⟨bu, bv⟩ _
          refine JA.branch [3, 7] (by kernel_rfl) rfl ?_
          refine JAll.cons rfl ?_ ?_
          · -- 3
            refine JO.val rfl rfl rfl (.none rfl) (Ev.lB Tryd.underlying33 Tryd.sizeOf33) ?_
            exact JA.wk (hmid6 (bu, 0) trivial)
          refine JAll.cons rfl ?_ JAll.nil
          refine JO.new rfl rfl rfl (.none rfl) (En.allocZ (cs := (fl [zeroD, zeroD, zeroD]).toArray) Tryd.zeroValue123 rfl) (fun b24 hb24 => ?_)
          obtain ⟨bv, rfl⟩ : ∃ b, b = b24 := ⟨_, rfl⟩
          exact JA.wk (hmid9 (bu, bv) trivial)
        refine JA.mid (X := Nat × Nat) (fun ⟨bu, bv⟩ => True) (fun ⟨bu, bv⟩ => [(24, .pointer (some ⟨bv, 0, none⟩)), (90, .agg (arr8 (ledC (m - bel n) (n - bel n) false x q).2.1)), (88, .agg (nfl [(y, (ledC (m - bel n) (n - bel n) false x q).1)]).toArray), (11, .pointer (some ⟨b11, 0, none⟩)), (12, .pointer (some ⟨b12, 0, none⟩)), (15, .pointer (some ⟨b15, 0, none⟩)), (21, .pointer (some ⟨b21, 0, none⟩)), (22, .pointer (some ⟨b22, 0, none⟩)), (20, Row.v (stepsN (m - bel n) (n - bel n) false x q).length r1)]) (fun ⟨bu, bv⟩ => ([(bv, Obj.cells (fl [zeroD, zeroD, zeroD]).toArray 123 (0, 0)), (b22, Obj.cells (arr8 (ledC (m - bel n) (n - bel n) false x q).2.1) 33 (0, 0)), (b21, Obj.cells (arr8 (ledC (m - bel n) (n - bel n) false x q).1.1) 33 (0, 0)), (b15, Obj.cells (arr8 y.1) 33 (0, 0)), (b12, Obj.cells (arr8 (List.replicate 32 0)) 33 (0, 0)), (b11, Obj.cells (arr8 (List.replicate 32 0)) 33 (0, 0))] ++ Row.b 123 r1)) 5 #[true, true, true, false, true, false, false, true, false, false] ?_ (fun hmid15 => ?_)
        · -- state [0, 1, 2, 4, 7]
          rintro ⟨bu, bv⟩ _
          refine JA.branch [3, 6] (by kernel_rfl) rfl ?_
          refine JAll.cons rfl ?_ ?_
          · -- 3
            refine JO.val rfl rfl rfl (.none rfl) (Ev.lB Tryd.underlying33 Tryd.sizeOf33) ?_
            exact JA.wk (hmid7 (0, bv) trivial)
          refine JAll.cons rfl ?_ JAll.nil
          refine JO.new rfl rfl rfl (.none rfl) (En.allocZ (cs := (fl [zeroD, zeroD, zeroD]).toArray) Tryd.zeroValue123 rfl) (fun b23 hb23 => ?_)
          obtain ⟨bu, rfl⟩ : ∃ b, b = b23 := ⟨_, rfl⟩
          exact JA.wk (hmid9 (bu, bv) trivial)
        refine JA.mid (X := Nat × Nat) (fun ⟨bu, bv⟩ => True) (fun ⟨bu, bv⟩ => [(24, .pointer (some ⟨bv, 0, none⟩)), (23, .pointer (some ⟨bu, 0, none⟩)), (88, .agg (nfl [(y, (ledC (m - bel n) (n - bel n) false x q).1)]).toArray), (11, .pointer (some ⟨b11, 0, none⟩)), (12, .pointer (some ⟨b12, 0, none⟩)), (15, .pointer (some ⟨b15, 0, none⟩)), (21, .pointer (some ⟨b21, 0, none⟩)), (22, .pointer (some ⟨b22, 0, none⟩)), (20, Row.v (stepsN (m - bel n) (n - bel n) false x q).length r1)]) (fun ⟨bu, bv⟩ => ([(bv, Obj.cells (fl [zeroD, zeroD, zeroD]).toArray 123 (0, 0)), (bu, Obj.cells (fl [zeroD, zeroD, zeroD]).toArray 123 (0, 0)), (b22, Obj.cells (arr8 (ledC (m - bel n) (n - bel n) false x q).2.1) 33 (0, 0)), (b21, Obj.cells (arr8 (ledC (m - bel n) (n - bel n) false x q).1.1) 33 (0, 0)), (b15, Obj.cells (arr8 y.1) 33 (0, 0)), (b12, Obj.cells (arr8 (List.replicate 32 0)) 33 (0, 0)), (b11, Obj.cells (arr8 (List.replicate 32 0)) 33 (0, 0))] ++ Row.b 123 r1)) 5 #[true, true, true, false, false, false, true, true, false, false] ?_ (fun hmid16 => ?_)
        · -- state [0, 1, 2, 6, 7]
          rintro ⟨bu, bv⟩ _
          refine JA.branch [3, 4] (by kernel_rfl) rfl ?_
          refine JAll.cons rfl ?_ ?_
          · -- 3
            refine JO.val rfl rfl rfl (.none rfl) (Ev.lB Tryd.underlying33 Tryd.sizeOf33) ?_
            exact JA.wk (hmid8 (bu, bv) trivial)
          refine JAll.cons rfl ?_ JAll.nil
          refine JO.val rfl rfl rfl (.none rfl) (Ev.lB Tryd.underlying33 Tryd.sizeOf33) ?_
          exact JA.wk (hmid9 (bu, bv) trivial)
        refine JA.mid (X := Nat × Nat) (fun ⟨bu, bv⟩ => True) (fun ⟨bu, bv⟩ => [(23, .pointer (some ⟨bu, 0, none⟩)), (90, .agg (arr8 (ledC (m - bel n) (n - bel n) false x q).2.1)), (89, .agg (arr8 y.1)), (87, .agg (arr8 (ledC (m - bel n) (n - bel n) false x q).1.1)), (86, .agg (arr8 y.1)), (11, .pointer (some ⟨b11, 0, none⟩)), (12, .pointer (some ⟨b12, 0, none⟩)), (15, .pointer (some ⟨b15, 0, none⟩)), (21, .pointer (some ⟨b21, 0, none⟩)), (22, .pointer (some ⟨b22, 0, none⟩)), (20, Row.v (stepsN (m - bel n) (n - bel n) false x q).length r1)]) (fun ⟨bu, bv⟩ => ([(bu, Obj.cells (fl [zeroD, zeroD, zeroD]).toArray 123 (0, 0)), (b22, Obj.cells (arr8 (ledC (m - bel n) (n - bel n) false x q).2.1) 33 (0, 0)), (b21, Obj.cells (arr8 (ledC (m - bel n) (n - bel n) false x q).1.1) 33 (0, 0)), (b15, Obj.cells (arr8 y.1) 33 (0, 0)), (b12, Obj.cells (arr8 (List.replicate 32 0)) 33 (0, 0)), (b11, Obj.cells (arr8 (List.replicate 32 0)) 33 (0, 0))] ++ Row.b 123 r1)) 5 #[true, true, false, true, true, false, true, false, false, false] ?_ (fun hmid17 => ?_)
        · -- state [0, 1, 3, 4, 6]
          rintro ⟨bu, bv⟩ _
          refine JA.branch [2, 7] (by kernel_rfl) rfl ?_
          refine JAll.cons rfl ?_ ?_
          · -- 2
            refine JO.callV rfl (.none rfl) rfl Tryd.call80 (fun w1 hw1 => fpair_any y (ledC (m - bel n) (n - bel n) false x q).1 w1 (hk.old hw1) (hf.old hw1)) ?_
            exact JA.wk (hmid6 (bu, 0) trivial)
          refine JAll.cons rfl ?_ JAll.nil
          refine JO.new rfl rfl rfl (.none rfl) (En.allocZ (cs := (fl [zeroD, zeroD, zeroD]).toArray) Tryd.zeroValue123 rfl) (fun b24 hb24 => ?_)
          obtain ⟨bv, rfl⟩ : ∃ b, b = b24 := ⟨_, rfl⟩
          exact JA.wk (hmid10 (bu, bv) trivial)
        refine JA.mid (X := Nat × Nat) (fun ⟨bu, bv⟩ => True) (fun ⟨bu, bv⟩ => [(24, .pointer (some ⟨bv, 0, none⟩)), (90, .agg (arr8 (ledC (m - bel n) (n - bel n) false x q).2.1)), (89, .agg (arr8 y.1)), (87, .agg (arr8 (ledC (m - bel n) (n - bel n) false x q).1.1)), (86, .agg (arr8 y.1)), (11, .pointer (some ⟨b11, 0, none⟩)), (12, .pointer (some ⟨b12, 0, none⟩)), (15, .pointer (some ⟨b15, 0, none⟩)), (21, .pointer (some ⟨b21, 0, none⟩)), (22, .pointer (some ⟨b22, 0, none⟩)), (20, Row.v (stepsN (m - bel n) (n - bel n) false x q).length r1)]) (fun ⟨bu, bv⟩ => ([(bv, Obj.cells (fl [zeroD, zeroD, zeroD]).toArray 123 (0, 0)), (b22, Obj.cells (arr8 (ledC (m - bel n) (n - bel n) false x q).2.1) 33 (0, 0)), (b21, Obj.cells (arr8 (ledC (m - bel n) (n - bel n) false x q).1.1) 33 (0, 0)), (b15, Obj.cells (arr8 y.1) 33 (0, 0)), (b12, Obj.cells (arr8 (List.replicate 32 0)) 33 (0, 0)), (b11, Obj.cells (arr8 (List.replicate 32 0)) 33 (0, 0))] ++ Row.b 123 r1)) 5 #[true, true, false, true, true, false, false, true, false, false] ?_ (fun hmid18 => ?_)
        · -- state [0, 1, 3, 4, 7]
          rintro ⟨bu, bv⟩ _
          refine JA.branch [2, 6] (by kernel_rfl) rfl ?_
          refine JAll.cons rfl ?_ ?_
          · -- 2
            refine JO.callV rfl (.none rfl) rfl Tryd.call80 (fun w1 hw1 => fpair_any y (ledC (m - bel n) (n - bel n) false x q).1 w1 (hk.old hw1) (hf.old hw1)) ?_
            exact JA.wk (hmid7 (0, bv) trivial)
          refine JAll.cons rfl ?_ JAll.nil
          refine JO.new rfl rfl rfl (.none rfl) (En.allocZ (cs := (fl [zeroD, zeroD, zeroD]).toArray) Tryd.zeroValue123 rfl) (fun b23 hb23 => ?_)
          obtain ⟨bu, rfl⟩ : ∃ b, b = b23 := ⟨_, rfl⟩
          exact JA.wk (hmid10 (bu, bv) trivial)
        refine JA.mid (X := Nat × Nat) (fun ⟨bu, bv⟩ => True) (fun ⟨bu, bv⟩ => [(24, .pointer (some ⟨bv, 0, none⟩)), (23, .pointer (some ⟨bu, 0, none⟩)), (89, .agg (arr8 y.1)), (87, .agg (arr8 (ledC (m - bel n) (n - bel n) false x q).1.1)), (86, .agg (arr8 y.1)), (11, .pointer (some ⟨b11, 0, none⟩)), (12, .pointer (some ⟨b12, 0, none⟩)), (15, .pointer (some ⟨b15, 0, none⟩)), (21, .pointer (some ⟨b21, 0, none⟩)), (22, .pointer (some ⟨b22, 0, none⟩)), (20, Row.v (stepsN (m - bel n) (n - bel n) false x q).length r1)]) (fun ⟨bu, bv⟩ => ([(bv, Obj.cells (fl [zeroD, zeroD, zeroD]).toArray 123 (0, 0)), (bu, Obj.cells (fl [zeroD, zeroD, zeroD]).toArray 123 (0, 0)), (b22, Obj.cells (arr8 (ledC (m - bel n) (n - bel n) false x q).2.1) 33 (0, 0)), (b21, Obj.cells (arr8 (ledC (m - bel n) (n - bel n) false x q).1.1) 33 (0, 0)), (b15, Obj.cells (arr8 y.1) 33 (0, 0)), (b12, Obj.cells (arr8 (List.replicate 32 0)) 33 (0, 0)), (b11, Obj.cells (arr8 (List.replicate 32 0)) 33 (0, 0))] ++ Row.b 123 r1)) 5 #[true, true, false, true, false, false, true, true, false, false] ?_ (fun hmid19 => ?_)
        · -- state [0, 1, 3, 6, 7]
          rintro ⟨bu, bv⟩ _
          refine JA.branch [2, 4] (by kernel_rfl) rfl ?_
          refine JAll.cons rfl ?_ ?_
          · -- 2
            refine JO.callV rfl (.none rfl) rfl Tryd.call80 (fun w1 hw1 => fpair_any y (ledC (m - bel n) (n - bel n) false x q).1 w1 (hk.old hw1) (hf.old hw1)) ?_
            exact JA.wk (hmid8 (bu, bv) trivial)
          refine JAll.cons rfl ?_ JAll.nil
          refine JO.val rfl rfl rfl (.none rfl) (Ev.lB Tryd.underlying33 Tryd.sizeOf33) ?_
          exact JA.wk (hmid10 (bu, bv) trivial)
        refine JA.mid (X := Nat × Nat) (fun ⟨bu, bv⟩ => True) (fun ⟨bu, bv⟩ => [(24, .pointer (some ⟨bv, 0, none⟩)), (23, .pointer (some ⟨bu, 0, none⟩)), (90, .agg (arr8 (ledC (m - bel n) (n - bel n) false x q).2.1)), (87, .agg (arr8 (ledC (m - bel n) (n - bel n) false x q).1.1)), (86, .agg (arr8 y.1)), (11, .pointer (some ⟨b11, 0, none⟩)), (12, .pointer (some ⟨b12, 0, none⟩)), (15, .pointer (some ⟨b15, 0, none⟩)), (21, .pointer (some ⟨b21, 0, none⟩)), (22, .pointer (some ⟨b22, 0, none⟩)), (20, Row.v (stepsN (m - bel n) (n - bel n) false x q).length r1)]) (fun ⟨bu, bv⟩ => ([(bv, Obj.cells (fl [zeroD, zeroD, zeroD]).toArray 123 (0, 0)), (bu, Obj.cells (fl [zeroD, zeroD, zeroD]).toArray 123 (0, 0)), (b22, Obj.cells (arr8 (ledC (m - bel n) (n - bel n) false x q).2.1) 33 (0, 0)), (b21, Obj.cells (arr8 (ledC (m - bel n) (n - bel n) false x q).1.1) 33 (0, 0)), (b15, Obj.cells (arr8 y.1) 33 (0, 0)), (b12, Obj.cells (arr8 (List.replicate 32 0)) 33 (0, 0)), (b11, Obj.cells (arr8 (List.replicate 32 0)) 33 (0, 0))] ++ Row.b 123 r1)) 5 #[true, true, false, false, true, false, true, true, false, false] ?_ (fun hmid20 => ?_)
        · -- state [0, 1, 4, 6, 7]
          rintro ⟨bu, bv⟩ _
          refine JA.branch [2, 3] (by kernel_rfl) rfl ?_
          refine JAll.cons rfl ?_ ?_
          · -- 2
            refine JO.callV rfl (.none rfl) rfl Tryd.call80 (fun w1 hw1 => fpair_any y (ledC (m - bel n) (n - bel n) false x q).1 w1 (hk.old hw1) (hf.old hw1)) ?_
            exact JA.wk (hmid9 (bu, bv) trivial)
          refine JAll.cons rfl ?_ JAll.nil
          refine JO.val rfl rfl rfl (.none rfl) (Ev.lB Tryd.underlying33 Tryd.sizeOf33) ?_
          exact JA.wk (hmid10 (bu, bv) trivial)
        refine JA.mid (X := Nat × Nat) (fun ⟨bu, bv⟩ => True) (fun ⟨bu, bv⟩ => [(24, .pointer (some ⟨bv, 0, none⟩)), (23, .pointer (some ⟨bu, 0, none⟩)), (90, .agg (arr8 (ledC (m - bel n) (n - bel n) false x q).2.1)), (89, .agg (arr8 y.1)), (86, .agg (arr8 y.1)), (11, .pointer (some ⟨b11, 0, none⟩)), (12, .pointer (some ⟨b12, 0, none⟩)), (15, .pointer (some ⟨b15, 0, none⟩)), (21, .pointer (some ⟨b21, 0, none⟩)), (22, .pointer (some ⟨b22, 0, none⟩)), (20, Row.v (stepsN (m - bel n) (n - bel n) false x q).length r1)]) (fun ⟨bu, bv⟩ => ([(bv, Obj.cells (fl [zeroD, zeroD, zeroD]).toArray 123 (0, 0)), (bu, Obj.cells (fl [zeroD, zeroD, zeroD]).toArray 123 (0, 0)), (b22, Obj.cells (arr8 (ledC (m - bel n) (n - bel n) false x q).2.1) 33 (0, 0)), (b21, Obj.cells (arr8 (ledC (m - bel n) (n - bel n) false x q).1.1) 33 (0, 0)), (b15, Obj.cells (arr8 y.1) 33 (0, 0)), (b12, Obj.cells (arr8 (List.replicate 32 0)) 33 (0, 0)), (b11, Obj.cells (arr8 (List.replicate 32 0)) 33 (0, 0))] ++ Row.b 123 r1)) 5 #[true, false, false, true, true, false, true, true, false, false] ?_ (fun hmid21 => ?_)
        · -- state [0, 3, 4, 6, 7]
          rintro ⟨bu, bv⟩ _
          refine JA.one 1 ?_
          refine JO.val rfl rfl rfl (.none rfl) (Ev.lB Tryd.underlying33 Tryd.sizeOf33) ?_
          exact JA.wk (hmid10 (bu, bv) trivial)
        refine JA.mid (X := Nat × Nat) (fun ⟨bu, bv⟩ => True) (fun ⟨bu, bv⟩ => [(24, .pointer (some ⟨bv, 0, none⟩)), (23, .pointer (some ⟨bu, 0, none⟩)), (90, .agg (arr8 (ledC (m - bel n) (n - bel n) false x q).2.1)), (89, .agg (arr8 y.1)), (87, .agg (arr8 (ledC (m - bel n) (n - bel n) false x q).1.1)), (11, .pointer (some ⟨b11, 0, none⟩)), (12, .pointer (some ⟨b12, 0, none⟩)), (15, .pointer (some ⟨b15, 0, none⟩)), (21, .pointer (some ⟨b21, 0, none⟩)), (22, .pointer (some ⟨b22, 0, none⟩)), (20, Row.v (stepsN (m - bel n) (n - bel n) false x q).length r1)]) (fun ⟨bu, bv⟩ => ([(bv, Obj.cells (fl [zeroD, zeroD, zeroD]).toArray 123 (0, 0)), (bu, Obj.cells (fl [zeroD, zeroD, zeroD]).toArray 123 (0, 0)), (b22, Obj.cells (arr8 (ledC (m - bel n) (n - bel n) false x q).2.1) 33 (0, 0)), (b21, Obj.cells (arr8 (ledC (m - bel n) (n - bel n) false x q).1.1) 33 (0, 0)), (b15, Obj.cells (arr8 y.1) 33 (0, 0)), (b12, Obj.cells (arr8 (List.replicate 32 0)) 33 (0, 0)), (b11, Obj.cells (arr8 (List.replicate 32 0)) 33 (0, 0))] ++ Row.b 123 r1)) 5 #[false, true, false, true, true, false, true, true, false, false] ?_ (fun hmid22 => ?_)
        · -- state [1, 3, 4, 6, 7]
          rintro ⟨bu, bv⟩ _
          refine JA.one 0 ?_
          refine JO.val rfl rfl rfl (.none rfl) (Ev.lB Tryd.underlying33 Tryd.sizeOf33) ?_
          exact JA.wk (hmid10 (bu, bv) trivial)
        refine JA.mid (X := Nat × Nat) (fun ⟨bu, bv⟩ => True) (fun ⟨bu, bv⟩ => [(89, .agg (arr8 y.1)), (88, .agg (nfl [(y, (ledC (m - bel n) (n - bel n) false x q).1)]).toArray), (11, .pointer (some ⟨b11, 0, none⟩)), (12, .pointer (some ⟨b12, 0, none⟩)), (15, .pointer (some ⟨b15, 0, none⟩)), (21, .pointer (some ⟨b21, 0, none⟩)), (22, .pointer (some ⟨b22, 0, none⟩)), (20, Row.v (stepsN (m - bel n) (n - bel n) false x q).length r1)]) (fun ⟨bu, bv⟩ => ([(b22, Obj.cells (arr8 (ledC (m - bel n) (n - bel n) false x q).2.1) 33 (0, 0)), (b21, Obj.cells (arr8 (ledC (m - bel n) (n - bel n) false x q).1.1) 33 (0, 0)), (b15, Obj.cells (arr8 y.1) 33 (0, 0)), (b12, Obj.cells (arr8 (List.replicate 32 0)) 33 (0, 0)), (b11, Obj.cells (arr8 (List.replicate 32 0)) 33 (0, 0))] ++ Row.b 123 r1)) 6 #[true, true, true, true, false, false, false, false, false, false] ?_ (fun hmid23 => ?_)
        · -- state [0, 1, 2, 3]
          rintro ⟨bu, bv⟩ _
          refine JA.branch [4, 6, 7] (by kernel_rfl) rfl ?_
          refine JAll.cons rfl ?_ ?_
          · -- 4
            refine JO.val rfl rfl rfl (.none rfl) (Ev.lB Tryd.underlying33 Tryd.sizeOf33) ?_
            exact JA.wk (hmid11 (0, 0) trivial)
          refine JAll.cons rfl ?_ ?_
          · -- 6
            refine JO.new rfl rfl rfl (.none rfl) (En.allocZ (cs := (fl [zeroD, zeroD, zeroD]).toArray) Tryd.zeroValue123 rfl) (fun b23 hb23 => ?_)
            obtain ⟨bu, rfl⟩ : ∃ b, b = b23 := ⟨_, rfl⟩
            exact JA.wk (hmid12 (bu, 0) trivial)
          refine JAll.cons rfl ?_ JAll.nil
          refine JO.new rfl rfl rfl (.none rfl) (En.allocZ (cs := (fl [zeroD, zeroD, zeroD]).toArray) Tryd.zeroValue123 rfl) (fun b24 hb24 => ?_)
          obtain ⟨bv, rfl⟩ : ∃ b, b = b24 := ⟨_, rfl⟩
          exact JA.wk (hmid13 (0, bv) trivial)
        refine JA.mid (X := Nat × Nat) (fun ⟨bu, bv⟩ => True) (fun ⟨bu, bv⟩ => [(90, .agg (arr8 (ledC (m - bel n) (n - bel n) false x q).2.1)), (88, .agg (nfl [(y, (ledC (m - bel n) (n - bel n) false x q).1)]).toArray), (11, .pointer (some ⟨b11, 0, none⟩)), (12, .pointer (some ⟨b12, 0, none⟩)), (15, .pointer (some ⟨b15, 0, none⟩)), (21, .pointer (some ⟨b21, 0, none⟩)), (22, .pointer (some ⟨b22, 0, none⟩)), (20, Row.v (stepsN (m - bel n) (n - bel n) false x q).length r1)]) (fun ⟨bu, bv⟩ => ([(b22, Obj.cells (arr8 (ledC (m - bel n) (n - bel n) false x q).2.1) 33 (0, 0)), (b21, Obj.cells (arr8 (ledC (m - bel n) (n - bel n) false x q).1.1) 33 (0, 0)), (b15, Obj.cells (arr8 y.1) 33 (0, 0)), (b12, Obj.cells (arr8 (List.replicate 32 0)) 33 (0, 0)), (b11, Obj.cells (arr8 (List.replicate 32 0)) 33 (0, 0))] ++ Row.b 123 r1)) 6 #[true, true, true, false, true, false, false, false, false, false] ?_ (fun hmid24 => ?_)
        · -- state [0, 1, 2, 4]
          rintro ⟨bu, bv⟩ _
          refine JA.branch [3, 6, 7] (by kernel_rfl) rfl ?_
          refine JAll.cons rfl ?_ ?_
          · -- 3
            refine JO.val rfl rfl rfl (.none rfl) (Ev.lB Tryd.underlying33 Tryd.sizeOf33) ?_
            exact JA.wk (hmid11 (0, 0) trivial)
          refine JAll.cons rfl ?_ ?_
          · -- 6
            refine JO.new rfl rfl rfl (.none rfl) (En.allocZ (cs := (fl [zeroD, zeroD, zeroD]).toArray) Tryd.zeroValue123 rfl) (fun b23 hb23 => ?_)
            obtain ⟨bu, rfl⟩ : ∃ b, b = b23 := ⟨_, rfl⟩
            exact JA.wk (hmid14 (bu, 0) trivial)
          refine JAll.cons rfl ?_ JAll.nil
          refine JO.new rfl rfl rfl (.none rfl) (En.allocZ (cs := (fl [zeroD, zeroD, zeroD]).toArray) Tryd.zeroValue123 rfl) (fun b24 hb24 => ?_)
          obtain ⟨bv, rfl⟩ : ∃ b, b = b24 := ⟨_, rfl⟩
          exact JA.wk (hmid15 (0, bv) trivial)
        refine JA.mid (X := Nat × Nat) (fun ⟨bu, bv⟩ => True) (fun ⟨bu, bv⟩ => [(23, .pointer (some ⟨bu, 0, none⟩)), (88, .agg (nfl [(y, (ledC (m - bel n) (n - bel n) false x q).1)]).toArray), (11, .pointer (some ⟨b11, 0, none⟩)), (12, .pointer (some ⟨b12, 0, none⟩)), (15, .pointer (some ⟨b15, 0, none⟩)), (21, .pointer (some ⟨b21, 0, none⟩)), (22, .pointer (some ⟨b22, 0, none⟩)), (20, Row.v (stepsN (m - bel n) (n - bel n) false x q).length r1)]) (fun ⟨bu, bv⟩ => ([(bu, Obj.cells (fl [zeroD, zeroD, zeroD]).toArray 123 (0, 0)), (b22, Obj.cells (arr8 (ledC (m - bel n) (n - bel n) false x q).2.1) 33 (0, 0)), (b21, Obj.cells (arr8 (ledC (m - bel n) (n - bel n) false x q).1.1) 33 (0, 0)), (b15, Obj.cells (arr8 y.1) 33 (0, 0)), (b12, Obj.cells (arr8 (List.replicate 32 0)) 33 (0, 0)), (b11, Obj.cells (arr8 (List.replicate 32 0)) 33 (0, 0))] ++ Row.b 123 r1)) 6 #[true, true, true, false, false, false, true, false, false, false] ?_ (fun hmid25 => ?_)
        · -- state [0, 1, 2, 6]
          rintro ⟨bu, bv⟩ _
          refine JA.branch [3, 4, 7] (by kernel_rfl) rfl ?_
          refine JAll.cons rfl ?_ ?_
          · -- 3
            refine JO.val rfl rfl rfl (.none rfl) (Ev.lB Tryd.underlying33 Tryd.sizeOf33) ?_
            exact JA.wk (hmid12 (bu, 0) trivial)
          refine JAll.cons rfl ?_ ?_
          · -- 4
            refine JO.val rfl rfl rfl (.none rfl) (Ev.lB Tryd.underlying33 Tryd.sizeOf33) ?_
            exact JA.wk (hmid14 (bu, 0) trivial)
          refine JAll.cons rfl ?_ JAll.nil
          refine JO.new rfl rfl rfl (.none rfl) (En.allocZ (cs := (fl [zeroD, zeroD, zeroD]).toArray) Tryd.zeroValue123 rfl) (fun b24 hb24 => ?_)
          obtain ⟨bv, rfl⟩ : ∃ b, b = b24 := ⟨_, rfl⟩
          exact JA.wk (hmid16 (bu, bv) trivial)
        refine JA.mid (X := Nat × Nat) (fun ⟨bu, bv⟩ => True) (fun ⟨bu, bv⟩ => [(24, .pointer (some ⟨bv, 0, none⟩)), (88, .agg (nfl [(y, (ledC (m - bel n) (n - bel n) false x q).1)]).toArray), (11, .pointer (some ⟨b11, 0, none⟩)), (12, .pointer (some ⟨b12, 0, none⟩)), (15, .pointer (some ⟨b15, 0, none⟩)), (21, .pointer (some ⟨b21, 0, none⟩)), (22, .pointer (some ⟨b22, 0, none⟩)), (20, Row.v (stepsN (m - bel n) (n - bel n) false x q).length r1)]) (fun ⟨bu, bv⟩ => ([(bv, Obj.cells (fl [zeroD, zeroD, zeroD]).toArray 123 (0, 0)), (b22, Obj.cells (arr8 (ledC (m - bel n) (n - bel n) false x q).2.1) 33 (0, 0)), (b21, Obj.cells (arr8 (ledC (m - bel n) (n - bel n) false x q).1.1) 33 (0, 0)), (b15, Obj.cells (arr8 y.1) 33 (0, 0)), (b12, Obj.cells (arr8 (List.replicate 32 0)) 33 (0, 0)), (b11, Obj.cells (arr8 (List.replicate 32 0)) 33 (0, 0))] ++ Row.b 123 r1)) 6 #[true, true, true, false, false, false, false, true, false, false] ?_ (fun hmid26 => ?_)
        · -- state [0, 1, 2, 7]
          rintro ⟨bu, bv⟩ _
          refine JA.branch [3, 4, 6] (by kernel_rfl) rfl ?_
          refine JAll.cons rfl ?_ ?_
          · -- 3
            refine JO.val rfl rfl rfl (.none rfl) (Ev.lB Tryd.underlying33 Tryd.sizeOf33) ?_
            exact JA.wk (hmid13 (0, bv) trivial)
          refine JAll.cons rfl ?_ ?_
          · -- 4
            refine JO.val rfl rfl rfl (.none rfl) (Ev.lB Tryd.underlying33 Tryd.sizeOf33) ?_
            exact JA.wk (hmid15 (0, bv) trivial)
          refine JAll.cons rfl ?_ JAll.nil
          refine JO.new rfl rfl rfl (.none rfl) (En.allocZ (cs := (fl [zeroD, zeroD, zeroD]).toArray) Tryd.zeroValue123 rfl) (fun b23 hb23 => ?_)
          obtain ⟨bu, rfl⟩ : ∃ b, b = b23 := ⟨_, rfl⟩
          exact JA.wk (hmid16 (bu, bv) trivial)
        refine JA.mid (X := Nat × Nat) (fun ⟨bu, bv⟩ => True) (fun ⟨bu, bv⟩ => [(90, .agg (arr8 (ledC (m - bel n) (n - bel n) false x q).2.1)), (89, .agg (arr8 y.1)), (87, .agg (arr8 (ledC (m - bel n) (n - bel n) false x q).1.1)), (86, .agg (arr8 y.1)), (11, .pointer (some ⟨b11, 0, none⟩)), (12, .pointer (some ⟨b12, 0, none⟩)), (15, .pointer (some ⟨b15, 0, none⟩)), (21, .pointer (some ⟨b21, 0, none⟩)), (22, .pointer (some ⟨b22, 0, none⟩)), (20, Row.v (stepsN (m - bel n) (n - bel n) false x q).length r1)]) (fun ⟨bu, bv⟩ => ([(b22, Obj.cells (arr8 (ledC (m - bel n) (n - bel n) false x q).2.1) 33 (0, 0)), (b21, Obj.cells (arr8 (ledC (m - bel n) (n - bel n) false x q).1.1) 33 (0, 0)), (b15, Obj.cells (arr8 y.1) 33 (0, 0)), (b12, Obj.cells (arr8 (List.replicate 32 0)) 33 (0, 0)), (b11, Obj.cells (arr8 (List.replicate 32 0)) 33 (0, 0))] ++ Row.b 123 r1)) 6 #[true, true, false, true, true, false, false, false, false, false] ?_ (fun hmid27 => ?_)
        · -- state [0, 1, 3, 4]
          rintro ⟨bu, bv⟩ _
          refine JA.branch [2, 6, 7] (by kernel_rfl) rfl ?_
          refine JAll.cons rfl ?_ ?_
          · -- 2
            refine JO.callV rfl (.none rfl) rfl Tryd.call80 (fun w1 hw1 => fpair_any y (ledC (m - bel n) (n - bel n) false x q).1 w1 (hk.old hw1) (hf.old hw1)) ?_
            exact JA.wk (hmid11 (0, 0) trivial)
          refine JAll.cons rfl ?_ ?_
          · -- 6
            refine JO.new rfl rfl rfl (.none rfl) (En.allocZ (cs := (fl [zeroD, zeroD, zeroD]).toArray) Tryd.zeroValue123 rfl) (fun b23 hb23 => ?_)
            obtain ⟨bu, rfl⟩ : ∃ b, b = b23 := ⟨_, rfl⟩
            exact JA.wk (hmid17 (bu, 0) trivial)
          refine JAll.cons rfl ?_ JAll.nil
          refine JO.new rfl rfl rfl (.none rfl) (En.allocZ (cs := (fl [zeroD, zeroD, zeroD]).toArray) Tryd.zeroValue123 rfl) (fun b24 hb24 => ?_)
          obtain ⟨bv, rfl⟩ : ∃ b, b = b24 := ⟨_, rfl⟩
          exact JA.wk (hmid18 (0, bv) trivial)
        refine JA.mid (X := Nat × Nat) (fun ⟨bu, bv⟩ => True) (fun ⟨bu, bv⟩ => [(23, .pointer (some ⟨bu, 0, none⟩)), (89, .agg (arr8 y.1)), (87, .agg (arr8 (ledC (m - bel n) (n - bel n) false x q).1.1)), (86, .agg (arr8 y.1)), (11, .pointer (some ⟨b11, 0, none⟩)), (12, .pointer (some ⟨b12, 0, none⟩)), (15, .pointer (some ⟨b15, 0, none⟩)), (21, .pointer (some ⟨b21, 0, none⟩)), (22, .pointer (some ⟨b22, 0, none⟩)), (20, Row.v (stepsN (m - bel n) (n - bel n) false x q).length r1)]) (fun ⟨bu, bv⟩ => ([(bu, Obj.cells (fl [zeroD, zeroD, zeroD]).toArray 123 (0, 0)), (b22, Obj.cells (arr8 (ledC (m - bel n) (n - bel n) false x q).2.1) 33 (0, 0)), (b21, Obj.cells (arr8 (ledC (m - bel n) (n - bel n) false x q).1.1) 33 (0, 0)), (b15, Obj.cells (arr8 y.1) 33 (0, 0)), (b12, Obj.cells (arr8 (List.replicate 32 0)) 33 (0, 0)), (b11, Obj.cells (arr8 (List.replicate 32 0)) 33 (0, 0))] ++ Row.b 123 r1)) 6 #[true, true, false, true, false, false, true, false, false, false] ?_ (fun hmid28 => ?_)
        · -- state [0, 1, 3, 6]
          rintro ⟨bu, bv⟩ _
          refine JA.branch [2, 4, 7] (by kernel_rfl) rfl ?_
          refine JAll.cons rfl ?_ ?_
          · -- 2
            refine JO.callV rfl (.none rfl) rfl Tryd.call80 (fun w1 hw1 => fpair_any y (ledC (m - bel n) (n - bel n) false x q).1 w1 (hk.old hw1) (hf.old hw1)) ?_
            exact JA.wk (hmid12 (bu, 0) trivial)
          refine JAll.cons rfl ?_ ?_
          · -- 4
            refine JO.val rfl rfl rfl (.none rfl) (Ev.lB Tryd.underlying33 Tryd.sizeOf33) ?_
            exact JA.wk (hmid17 (bu, 0) trivial)
          refine JAll.cons rfl ?_ JAll.nil
          refine JO.new rfl rfl rfl (.none rfl) (En.allocZ (cs := (fl [zeroD, zeroD, zeroD]).toArray) Tryd.zeroValue123 rfl) (fun b24 hb24 => ?_)
          obtain ⟨bv, rfl⟩ : ∃ b, b = b24 := ⟨_, rfl⟩
          exact JA.wk (hmid19 (bu, bv) trivial)
        refine JA.mid (X := Nat × Nat) (fun ⟨bu, bv⟩ => True) (fun ⟨bu, bv⟩ => [(24, .pointer (some ⟨bv, 0, none⟩)), (89, .agg (arr8 y.1)), (87, .agg (arr8 (ledC (m - bel n) (n - bel n) false x q).1.1)), (86, .agg (arr8 y.1)), (11, .pointer (some ⟨b11, 0, none⟩)), (12, .pointer (some ⟨b12, 0, none⟩)), (15, .pointer (some ⟨b15, 0, none⟩)), (21, .pointer (some ⟨b21, 0, none⟩)), (22, .pointer (some ⟨b22, 0, none⟩)), (20, Row.v (stepsN (m - bel n) (n - bel n) false x q).length r1)]) (fun ⟨bu, bv⟩ => ([(bv, Obj.cells (fl [zeroD, zeroD, zeroD]).toArray 123 (0, 0)), (b22, Obj.cells (arr8 (ledC (m - bel n) (n - bel n) false x q).2.1) 33 (0, 0)), (b21, Obj.cells (arr8 (ledC (m - bel n) (n - bel n) false x q).1.1) 33 (0, 0)), (b15, Obj.cells (arr8 y.1) 33 (0, 0)), (b12, Obj.cells (arr8 (List.replicate 32 0)) 33 (0, 0)), (b11, Obj.cells (arr8 (List.replicate 32 0)) 33 (0, 0))] ++ Row.b 123 r1)) 6 #[true, true, false, true, false, false, false, true, false, false] ?_ (fun hmid29 => ?_)
        · -- state [0, 1, 3, 7]
          rintro ⟨bu, bv⟩ _
          refine JA.branch [2, 4, 6] (by kernel_rfl) rfl ?_
          refine JAll.cons rfl ?_ ?_
          · -- 2
            refine JO.callV rfl (.none rfl) rfl Tryd.call80 (fun w1 hw1 => fpair_any y (ledC (m - bel n) (n - bel n) false x q).1 w1 (hk.old hw1) (hf.old hw1)) ?_
            exact JA.wk (hmid13 (0, bv) trivial)
          refine JAll.cons rfl ?_ ?_
          · -- 4
            refine JO.val rfl rfl rfl (.none rfl) (Ev.lB Tryd.underlying33 Tryd.sizeOf33) ?_
            exact JA.wk (hmid18 (0, bv) trivial)
          refine JAll.cons rfl ?_ JAll.nil
          refine JO.new rfl rfl rfl (.none rfl) (En.allocZ (cs := (fl [zeroD, zeroD, zeroD]).toArray) Tryd.zeroValue123 rfl) (fun b23 hb23 => ?_)
          obtain ⟨bu, rfl⟩ : ∃ b, b = b23 := ⟨_, rfl⟩
          exact JA.wk (hmid19 (bu, bv) trivial)
        refine JA.mid (X := Nat × Nat) (fun ⟨bu, bv⟩ => True) (fun ⟨bu, bv⟩ => [(23, .pointer (some ⟨bu, 0, none⟩)), (90, .agg (arr8 (ledC (m - bel n) (n - bel n) false x q).2.1)), (87, .agg (arr8 (ledC (m - bel n) (n - bel n) false x q).1.1)), (86, .agg (arr8 y.1)), (11, .pointer (some ⟨b11, 0, none⟩)), (12, .pointer (some ⟨b12, 0, none⟩)), (15, .pointer (some ⟨b15, 0, none⟩)), (21, .pointer (some ⟨b21, 0, none⟩)), (22, .pointer (some ⟨b22, 0, none⟩)), (20, Row.v (stepsN (m - bel n) (n - bel n) false x q).length r1)]) (fun ⟨bu, bv⟩ => ([(bu, Obj.cells (fl [zeroD, zeroD, zeroD]).toArray 123 (0, 0)), (b22, Obj.cells (arr8 (ledC (m - bel n) (n - bel n) false x q).2.1) 33 (0, 0)), (b21, Obj.cells (arr8 (ledC (m - bel n) (n - bel n) false x q).1.1) 33 (0, 0)), (b15, Obj.cells (arr8 y.1) 33 (0, 0)), (b12, Obj.cells (arr8 (List.replicate 32 0)) 33 (0, 0)), (b11, Obj.cells (arr8 (List.replicate 32 0)) 33 (0, 0))] ++ Row.b 123 r1)) 6 #[true, true, false, false, true, false, true, false, false, false] ?_ (fun hmid30 => ?_)
        · -- state [0, 1, 4, 6]
          rintro ⟨bu, bv⟩ _
          refine JA.branch [2, 3, 7] (by kernel_rfl) rfl ?_
          refine JAll.cons rfl ?_ ?_
          · -- 2
            refine JO.callV rfl (.none rfl) rfl Tryd.call80 (fun w1 hw1 => fpair_any y (ledC (m - bel n) (n - bel n) false x q).1 w1 (hk.old hw1) (hf.old hw1)) ?_
            exact JA.wk (hmid14 (bu, 0) trivial)
          refine JAll.cons rfl ?_ ?_
          · -- 3
            refine JO.val rfl rfl rfl (.none rfl) (Ev.lB Tryd.underlying33 Tryd.sizeOf33) ?_
            exact JA.wk (hmid17 (bu, 0) trivial)
          refine JAll.cons rfl ?_ JAll.nil
          refine JO.new rfl rfl rfl (.none rfl) (En.allocZ (cs := (fl [zeroD, zeroD, zeroD]).toArray) Tryd.zeroValue123 rfl) (fun b24 hb24 => ?_)
          obtain ⟨bv, rfl⟩ : ∃ b, b = b24 := ⟨_, rfl⟩
          exact JA.wk (hmid20 (bu, bv) trivial)
        refine JA.mid (X := Nat × Nat) (fun ⟨bu, bv⟩ => True) (fun ⟨bu, bv⟩ => [(24, .pointer (some ⟨bv, 0, none⟩)), (90, .agg (arr8 (ledC (m - bel n) (n - bel n) false x q).2.1)), (87, .agg (arr8 (ledC (m - bel n) (n - bel n) false x q).1.1)), (86, .agg (arr8 y.1)), (11, .pointer (some ⟨b11, 0, none⟩)), (12, .pointer (some ⟨b12, 0, none⟩)), (15, .pointer (some ⟨b15, 0, none⟩)), (21, .pointer (some ⟨b21, 0, none⟩)), (22, .pointer (some ⟨b22, 0, none⟩)), (20, Row.v (stepsN (m - bel n) (n - bel n) false x q).length r1)]) (fun ⟨bu, bv⟩ => ([(bv, Obj.cells (fl [zeroD, zeroD, zeroD]).toArray 123 (0, 0)), (b22, Obj.cells (arr8 (ledC (m - bel n) (n - bel n) false x q).2.1) 33 (0, 0)), (b21, Obj.cells (arr8 (ledC (m - bel n) (n - bel n) false x q).1.1) 33 (0, 0)), (b15, Obj.cells (arr8 y.1) 33 (0, 0)), (b12, Obj.cells (arr8 (List.replicate 32 0)) 33 (0, 0)), (b11, Obj.cells (arr8 (List.replicate 32 0)) 33 (0, 0))] ++ Row.b 123 r1)) 6 #[true, true, false, false, true, false, false, true, false, false] ?_ (fun hmid31 => ?_)
        · -- state [0, 1, 4, 7]
          rintro ⟨bu, bv⟩ _
          refine JA.branch [2, 3, 6] (by kernel_rfl) rfl ?_
          refine JAll.cons rfl ?_ ?_
          · -- 2
            refine JO.callV rfl (.none rfl) rfl Tryd.call80 (fun w1 hw1 => fpair_any y (ledC (m - bel n) (n - bel n) false x q).1 w1 (hk.old hw1) (hf.old hw1)) ?_
            exact JA.wk (hmid15 (0, bv) trivial)
          refine JAll.cons rfl ?_ ?_
          · -- 3
            refine JO.val rfl rfl rfl (.none rfl) (Ev.lB Tryd.underlying33 Tryd.sizeOf33) ?_
            exact JA.wk (hmid18 (0, bv) trivial)
          refine JAll.cons rfl ?_ JAll.nil
          refine JO.new rfl rfl rfl (.none rfl) (En.allocZ (cs := (fl [zeroD, zeroD, zeroD]).toArray) Tryd.zeroValue123 rfl) (fun b23 hb23 => ?_)
          obtain ⟨bu, rfl⟩ : ∃ b, b = b23 := ⟨_, rfl⟩
          exact JA.wk (hmid20 (bu, bv) trivial)
        refine JA.mid (X := Nat × Nat) (fun ⟨bu, bv⟩ => True) (fun ⟨bu, bv⟩ => [(24, .pointer (some ⟨bv, 0, none⟩)), (23, .pointer (some ⟨bu, 0, none⟩)), (87, .agg (arr8 (ledC (m - bel n) (n - bel n) false x q).1.1)), (86, .agg (arr8 y.1)), (11, .pointer (some ⟨b11, 0, none⟩)), (12, .pointer (some ⟨b12, 0, none⟩)), (15, .pointer (some ⟨b15, 0, none⟩)), (21, .pointer (some ⟨b21, 0, none⟩)), (22, .pointer (some ⟨b22, 0, none⟩)), (20, Row.v (stepsN (m - bel n) (n - bel n) false x q).length r1)]) (fun ⟨bu, bv⟩ => ([(bv, Obj.cells (fl [zeroD, zeroD, zeroD]).toArray 123 (0, 0)), (bu, Obj.cells (fl [zeroD, zeroD, zeroD]).toArray 123 (0, 0)), (b22, Obj.cells (arr8 (ledC (m - bel n) (n - bel n) false x q).2.1) 33 (0, 0)), (b21, Obj.cells (arr8 (ledC (m - bel n) (n - bel n) false x q).1.1) 33 (0, 0)), (b15, Obj.cells (arr8 y.1) 33 (0, 0)), (b12, Obj.cells (arr8 (List.replicate 32 0)) 33 (0, 0)), (b11, Obj.cells (arr8 (List.replicate 32 0)) 33 (0, 0))] ++ Row.b 123 r1)) 6 #[true, true, false, false, false, false, true, true, false, false] ?_ (fun hmid32 => ?_)
        · -- state [0, 1, 6, 7]
          rintro ⟨bu, bv⟩ _
          refine JA.branch [2, 3, 4] (by kernel_rfl) rfl ?_
          refine JAll.cons rfl ?_ ?_
          · -- 2
            refine JO.callV rfl (.none rfl) rfl Tryd.call80 (fun w1 hw1 => fpair_any y (ledC (m - bel n) (n - bel n) false x q).1 w1 (hk.old hw1) (hf.old hw1)) ?_
            exact JA.wk (hmid16 (bu, bv) trivial)
          refine JAll.cons rfl ?_ ?_
          · -- 3
            refine JO.val rfl rfl rfl (.none rfl) (Ev.lB Tryd.underlying33 Tryd.sizeOf33) ?_
            exact JA.wk (hmid19 (bu, bv) trivial)
          refine JAll.cons rfl ?_ JAll.nil
          refine JO.val rfl rfl rfl (.none rfl) (Ev.lB Tryd.underlying33 Tryd.sizeOf33) ?_
          exact JA.wk (hmid20 (bu, bv) trivial)
        refine JA.mid (X := Nat × Nat) (fun ⟨bu, bv⟩ => True) (fun ⟨bu, bv⟩ => [(23, .pointer (some ⟨bu, 0, none⟩)), (90, .agg (arr8 (ledC (m - bel n) (n - bel n) false x q).2.1)), (89, .agg (arr8 y.1)), (86, .agg (arr8 y.1)), (11, .pointer (some ⟨b11, 0, none⟩)), (12, .pointer (some ⟨b12, 0, none⟩)), (15, .pointer (some ⟨b15, 0, none⟩)), (21, .pointer (some ⟨b21, 0, none⟩)), (22, .pointer (some ⟨b22, 0, none⟩)), (20, Row.v (stepsN (m - bel n) (n - bel n) false x q).length r1)]) (fun ⟨bu, bv⟩ => ([(bu, Obj.cells (fl [zeroD, zeroD, zeroD]).toArray 123 (0, 0)), (b22, Obj.cells (arr8 (ledC (m - bel n) (n - bel n) false x q).2.1) 33 (0, 0)), (b21, Obj.cells (arr8 (ledC (m - bel n) (n - bel n) false x q).1.1) 33 (0, 0)), (b15, Obj.cells (arr8 y.1) 33 (0, 0)), (b12, Obj.cells (arr8 (List.replicate 32 0)) 33 (0, 0)), (b11, Obj.cells (arr8 (List.replicate 32 0)) 33 (0, 0))] ++ Row.b 123 r1)) 6 #[true, false, false, true, true, false, true, false, false, false] ?_ (fun hmid33 => ?_)
        · -- state [0, 3, 4, 6]
          rintro ⟨bu, bv⟩ _
          refine JA.branch [1, 7] (by kernel_rfl) rfl ?_
          refine JAll.cons rfl ?_ ?_
          · -- 1
            refine JO.val rfl rfl rfl (.none rfl) (Ev.lB Tryd.underlying33 Tryd.sizeOf33) ?_
            exact JA.wk (hmid17 (bu, 0) trivial)
          refine JAll.cons rfl ?_ JAll.nil
          refine JO.new rfl rfl rfl (.none rfl) (En.allocZ (cs := (fl [zeroD, zeroD, zeroD]).toArray) Tryd.zeroValue123 rfl) (fun b24 hb24 => ?_)
          obtain ⟨bv, rfl⟩ : ∃ b, b = b24 := ⟨_, rfl⟩
          exact JA.wk (hmid21 (bu, bv) trivial)
        refine JA.mid (X := Nat × Nat) (fun ⟨bu, bv⟩ => True) (fun ⟨bu, bv⟩ => [(24, .pointer (some ⟨bv, 0, none⟩)), (90, .agg (arr8 (ledC (m - bel n) (n - bel n) false x q).2.1)), (89, .agg (arr8 y.1)), (86, .agg (arr8 y.1)), (11, .pointer (some ⟨b11, 0, none⟩)), (12, .pointer (some ⟨b12, 0, none⟩)), (15, .pointer (some ⟨b15, 0, none⟩)), (21, .pointer (some ⟨b21, 0, none⟩)), (22, .pointer (some ⟨b22, 0, none⟩)), (20, Row.v (stepsN (m - bel n) (n - bel n) false x q).length r1)]) (fun ⟨bu, bv⟩ => ([(bv, Obj.cells (fl [zeroD, zeroD, zeroD]).toArray 123 (0, 0)), (b22, Obj.cells (arr8 (ledC (m - bel n) (n - bel n) false x q).2.1) 33 (0, 0)), (b21, Obj.cells (arr8 (ledC (m - bel n) (n - bel n) false x q).1.1) 33 (0, 0)), (b15, Obj.cells (arr8 y.1) 33 (0, 0)), (b12, Obj.cells (arr8 (List.replicate 32 0)) 33 (0, 0)), (b11, Obj.cells (arr8 (List.replicate 32 0)) 33 (0, 0))] ++ Row.b 123 r1)) 6 #[true, false, false, true, true, false, false, true, false, false] ?_ (fun hmid34 => ?_)
        · -- state [0, 3, 4, 7]
          rintro ⟨bu, bv⟩ _
          refine JA.branch [1, 6] (by kernel_rfl) rfl ?_
          refine JAll.cons rfl ?_ ?_
          · -- 1
            refine JO.val rfl rfl rfl (.none rfl) (Ev.lB Tryd.underlying33 Tryd.sizeOf33) ?_
            exact JA.wk (hmid18 (0, bv) trivial)
          refine JAll.cons rfl ?_ JAll.nil
          refine JO.new rfl rfl rfl (.none rfl) (En.allocZ (cs := (fl [zeroD, zeroD, zeroD]).toArray) Tryd.zeroValue123 rfl) (fun b23 hb23 => ?_)
          obtain ⟨bu, rfl⟩ : ∃ b, b = b23 := ⟨_, rfl⟩
          exact JA.wk (hmid21 (bu, bv) trivial)
        refine JA.mid (X := Nat × Nat) (fun ⟨bu, bv⟩ => True) (fun ⟨bu, bv⟩ => [(24, .pointer (some ⟨bv, 0, none⟩)), (23, .pointer (some ⟨bu, 0, none⟩)), (89, .agg (arr8 y.1)), (86, .agg (arr8 y.1)), (11, .pointer (some ⟨b11, 0, none⟩)), (12, .pointer (some ⟨b12, 0, none⟩)), (15, .pointer (some ⟨b15, 0, none⟩)), (21, .pointer (some ⟨b21, 0, none⟩)), (22, .pointer (some ⟨b22, 0, none⟩)), (20, Row.v (stepsN (m - bel n) (n - bel n) false x q).length r1)]) (fun ⟨bu, bv⟩ => ([(bv, Obj.cells (fl [zeroD, zeroD, zeroD]).toArray 123 (0, 0)), (bu, Obj.cells (fl [zeroD, zeroD, zeroD]).toArray 123 (0, 0)), (b22, Obj.cells (arr8 (ledC (m - bel n) (n - bel n) false x q).2.1) 33 (0, 0)), (b21, Obj.cells (arr8 (ledC (m - bel n) (n - bel n) false x q).1.1) 33 (0, 0)), (b15, Obj.cells (arr8 y.1) 33 (0, 0)), (b12, Obj.cells (arr8 (List.replicate 32 0)) 33 (0, 0)), (b11, Obj.cells (arr8 (List.replicate 32 0)) 33 (0, 0))] ++ Row.b 123 r1)) 6 #[true, false, false, true, false, false, true, true, false, false] ?_ (fun hmid35 => ?_)
        · -- state [0, 3, 6, 7]
          rintro ⟨bu, bv⟩ _
          refine JA.branch [1, 4] (by kernel_rfl) rfl ?_
          refine JAll.cons rfl ?_ ?_
          · -- 1
            refine JO.val rfl rfl rfl (.none rfl) (Ev.lB Tryd.underlying33 Tryd.sizeOf33) ?_
            exact JA.wk (hmid19 (bu, bv) trivial)
          refine JAll.cons rfl ?_ JAll.nil
          refine JO.val rfl rfl rfl (.none rfl) (Ev.lB Tryd.underlying33 Tryd.sizeOf33) ?_
          exact JA.wk (hmid21 (bu, bv) trivial)
        refine JA.mid (X := Nat × Nat) (fun ⟨bu, bv⟩ => True) (fun ⟨bu, bv⟩ => [(24, .pointer (some ⟨bv, 0, none⟩)), (23, .pointer (some ⟨bu, 0, none⟩)), (90, .agg (arr8 (ledC (m - bel n) (n - bel n) false x q).2.1)), (86, .agg (arr8 y.1)), (11, .pointer (some ⟨b11, 0, none⟩)), (12, .pointer (some ⟨b12, 0, none⟩)), (15, .pointer (some ⟨b15, 0, none⟩)), (21, .pointer (some ⟨b21, 0, none⟩)), (22, .pointer (some ⟨b22, 0, none⟩)), (20, Row.v (stepsN (m - bel n) (n - bel n) false x q).length r1)]) (fun ⟨bu, bv⟩ => ([(bv, Obj.cells (fl [zeroD, zeroD, zeroD]).toArray 123 (0, 0)), (bu, Obj.cells (fl [zeroD, zeroD, zeroD]).toArray 123 (0, 0)), (b22, Obj.cells (arr8 (ledC (m - bel n) (n - bel n) false x q).2.1) 33 (0, 0)), (b21, Obj.cells (arr8 (ledC (m - bel n) (n - bel n) false x q).1.1) 33 (0, 0)), (b15, Obj.cells (arr8 y.1) 33 (0, 0)), (b12, Obj.cells (arr8 (List.replicate 32 0)) 33 (0, 0)), (b11, Obj.cells (arr8 (List.replicate 32 0)) 33 (0, 0))] ++ Row.b 123 r1)) 6 #[true, false, false, false, true, false, true, true, false, false] ?_ (fun hmid36 => ?_)
        · -- state [0, 4, 6, 7]
          rintro ⟨bu, bv⟩ _
          refine JA.branch [1, 3] (by kernel_rfl) rfl ?_
          refine JAll.cons rfl ?_ ?_
          · -- 1
            refine JO.val rfl rfl rfl (.none rfl) (Ev.lB Tryd.underlying33 Tryd.sizeOf33) ?_
            exact JA.wk (hmid20 (bu, bv) trivial)
          refine JAll.cons rfl ?_ JAll.nil
          refine JO.val rfl rfl rfl (.none rfl) (Ev.lB Tryd.underlying33 Tryd.sizeOf33) ?_
          exact JA.wk (hmid21 (bu, bv) trivial)
        refine JA.mid (X := Nat × Nat) (fun ⟨bu, bv⟩ => True) (fun ⟨bu, bv⟩ => [(23, .pointer (some ⟨bu, 0, none⟩)), (90, .agg (arr8 (ledC (m - bel n) (n - bel n) false x q).2.1)), (89, .agg (arr8 y.1)), (87, .agg (arr8 (ledC (m - bel n) (n - bel n) false x q).1.1)), (11, .pointer (some ⟨b11, 0, none⟩)), (12, .pointer (some ⟨b12, 0, none⟩)), (15, .pointer (some ⟨b15, 0, none⟩)), (21, .pointer (some ⟨b21, 0, none⟩)), (22, .pointer (some ⟨b22, 0, none⟩)), (20, Row.v (stepsN (m - bel n) (n - bel n) false x q).length r1)]) (fun ⟨bu, bv⟩ => ([(bu, Obj.cells (fl [zeroD, zeroD, zeroD]).toArray 123 (0, 0)), (b22, Obj.cells (arr8 (ledC (m - bel n) (n - bel n) false x q).2.1) 33 (0, 0)), (b21, Obj.cells (arr8 (ledC (m - bel n) (n - bel n) false x q).1.1) 33 (0, 0)), (b15, Obj.cells (arr8 y.1) 33 (0, 0)), (b12, Obj.cells (arr8 (List.replicate 32 0)) 33 (0, 0)), (b11, Obj.cells (arr8 (List.replicate 32 0)) 33 (0, 0))] ++ Row.b 123 r1)) 6 #[false, true, false, true, true, false, true, false, false, false] ?_ (fun hmid37 => ?_)
        · -- state [1, 3, 4, 6]
          rintro ⟨bu, bv⟩ _
          refine JA.branch [0, 7] (by kernel_rfl) rfl ?_
          refine JAll.cons rfl ?_ ?_
          · -- 0
            refine JO.val rfl rfl rfl (.none rfl) (Ev.lB Tryd.underlying33 Tryd.sizeOf33) ?_
            exact JA.wk (hmid17 (bu, 0) trivial)
          refine JAll.cons rfl ?_ JAll.nil
          refine JO.new rfl rfl rfl (.none rfl) (En.allocZ (cs := (fl [zeroD, zeroD, zeroD]).toArray) Tryd.zeroValue123 rfl) (fun b24 hb24 => ?_)
          obtain ⟨bv, rfl⟩ : ∃ b, b = b24 := ⟨_, rfl⟩
          exact JA.wk (hmid22 (bu, bv) trivial)
        refine JA.mid (X := Nat × Nat) (fun ⟨bu, bv⟩ => True) (fun ⟨bu, bv⟩ => [(24, .pointer (some ⟨bv, 0, none⟩)), (90, .agg (arr8 (ledC (m - bel n) (n - bel n) false x q).2.1)), (89, .agg (arr8 y.1)), (87, .agg (arr8 (ledC (m - bel n) (n - bel n) false x q).1.1)), (11, .pointer (some ⟨b11, 0, none⟩)), (12, .pointer (some ⟨b12, 0, none⟩)), (15, .pointer (some ⟨b15, 0, none⟩)), (21, .pointer (some ⟨b21, 0, none⟩)), (22, .pointer (some ⟨b22, 0, none⟩)), (20, Row.v (stepsN (m - bel n) (n - bel n) false x q).length r1)]) (fun ⟨bu, bv⟩ => ([(bv, Obj.cells (fl [zeroD, zeroD, zeroD]).toArray 123 (0, 0)), (b22, Obj.cells (arr8 (ledC (m - bel n) (n - bel n) false x q).2.1) 33 (0, 0)), (b21, Obj.cells (arr8 (ledC (m - bel n) (n - bel n) false x q).1.1) 33 (0, 0)), (b15, Obj.cells (arr8 y.1) 33 (0, 0)), (b12, Obj.cells (arr8 (List.replicate 32 0)) 33 (0, 0)), (b11, Obj.cells (arr8 (List.replicate 32 0)) 33 (0, 0))] ++ Row.b 123 r1)) 6 #[false, true, false, true, true, false, false, true, false, false] ?_ (fun hmid38 => ?_)
        · -- state [1, 3, 4, 7]
          rintro ⟨bu, bv⟩ _
          refine JA.branch [0, 6] (by kernel_rfl) rfl ?_
          refine JAll.cons rfl ?_ ?_
          · -- 0
            refine JO.val rfl rfl rfl (.none rfl) (Ev.lB Tryd.underlying33 Tryd.sizeOf33) ?_
            exact JA.wk (hmid18 (0, bv) trivial)
          refine JAll.cons rfl ?_ JAll.nil
          refine JO.new rfl rfl rfl (.none rfl) (En.allocZ (cs := (fl [zeroD, zeroD, zeroD]).toArray) Tryd.zeroValue123 rfl) (fun b23 hb23 => ?_)
          obtain ⟨bu, rfl⟩ : ∃ b, b = b23 := ⟨_, rfl⟩
          exact JA.wk (hmid22 (bu, bv) trivial)
        refine JA.mid (X := Nat × Nat) (fun ⟨bu, bv⟩ => True) (fun ⟨bu, bv⟩ => [(24, .pointer (some ⟨bv, 0, none⟩)), (23, .pointer (some ⟨bu, 0, none⟩)), (89, .agg (arr8 y.1)), (87, .agg (arr8 (ledC (m - bel n) (n - bel n) false x q).1.1)), (11, .pointer (some ⟨b11, 0, none⟩)), (12, .pointer (some ⟨b12, 0, none⟩)), (15, .pointer (some ⟨b15, 0, none⟩)), (21, .pointer (some ⟨b21, 0, none⟩)), (22, .pointer (some ⟨b22, 0, none⟩)), (20, Row.v (stepsN (m - bel n) (n - bel n) false x q).length r1)]) (fun ⟨bu, bv⟩ => ([(bv, Obj.cells (fl [zeroD, zeroD, zeroD]).toArray 123 (0, 0)), (bu, Obj.cells (fl [zeroD, zeroD, zeroD]).toArray 123 (0, 0)), (b22, Obj.cells (arr8 (ledC (m - bel n) (n - bel n) false x q).2.1) 33 (0, 0)), (b21, Obj.cells (arr8 (ledC (m - bel n) (n - bel n) false x q).1.1) 33 (0, 0)), (b15, Obj.cells (arr8 y.1) 33 (0, 0)), (b12, Obj.cells (arr8 (List.replicate 32 0)) 33 (0, 0)), (b11, Obj.cells (arr8 (List.replicate 32 0)) 33 (0, 0))] ++ Row.b 123 r1)) 6 #[false, true, false, true, false, false, true, true, false, false] ?_ (fun hmid39 => ?_)
        · -- state [1, 3, 6, 7]
          rintro ⟨bu, bv⟩ _
          refine JA.branch [0, 4] (by kernel_rfl) rfl ?_
          refine JAll.cons rfl ?_ ?_
          · -- 0
            refine JO.val rfl rfl rfl (.none rfl) (Ev.lB Tryd.underlying33 Tryd.sizeOf33) ?_
            exact JA.wk (hmid19 (bu, bv) trivial)
          refine JAll.cons rfl ?_ JAll.nil
          refine JO.val rfl rfl rfl (.none rfl) (Ev.lB Tryd.underlying33 Tryd.sizeOf33) ?_
          exact JA.wk (hmid22 (bu, bv) trivial)
        refine JA.mid (X := Nat × Nat) (fun ⟨bu, bv⟩ => True) (fun ⟨bu, bv⟩ => [(24, .pointer (some ⟨bv, 0, none⟩)), (23, .pointer (some ⟨bu, 0, none⟩)), (90, .agg (arr8 (ledC (m - bel n) (n - bel n) false x q).2.1)), (87, .agg (arr8 (ledC (m - bel n) (n - bel n) false x q).1.1)), (11, .pointer (some ⟨b11, 0, none⟩)), (12, .pointer (some ⟨b12, 0, none⟩)), (15, .pointer (some ⟨b15, 0, none⟩)), (21, .pointer (some ⟨b21, 0, none⟩)), (22, .pointer (some ⟨b22, 0, none⟩)), (20, Row.v (stepsN (m - bel n) (n - bel n) false x q).length r1)]) (fun ⟨bu, bv⟩ => ([(bv, Obj.cells (fl [zeroD, zeroD, zeroD]).toArray 123 (0, 0)), (bu, Obj.cells (fl [zeroD, zeroD, zeroD]).toArray 123 (0, 0)), (b22, Obj.cells (arr8 (ledC (m - bel n) (n - bel n) false x q).2.1) 33 (0, 0)), (b21, Obj.cells (arr8 (ledC (m - bel n) (n - bel n) false x q).1.1) 33 (0, 0)), (b15, Obj.cells (arr8 y.1) 33 (0, 0)), (b12, Obj.cells (arr8 (List.replicate 32 0)) 33 (0, 0)), (b11, Obj.cells (arr8 (List.replicate 32 0)) 33 (0, 0))] ++ Row.b 123 r1)) 6 #[false, true, false, false, true, false, true, true, false, false] ?_ (fun hmid40 => ?_)
        · -- state [1, 4, 6, 7]
          rintro ⟨bu, bv⟩ _
          refine JA.branch [0, 3] (by kernel_rfl) rfl ?_
          refine JAll.cons rfl ?_ ?_
          · -- 0
            refine JO.val rfl rfl rfl (.none rfl) (Ev.lB Tryd.underlying33 Tryd.sizeOf33) ?_
            exact JA.wk (hmid20 (bu, bv) trivial)
          refine JAll.cons rfl ?_ JAll.nil
          refine JO.val rfl rfl rfl (.none rfl) (Ev.lB Tryd.underlying33 Tryd.sizeOf33) ?_
          exact JA.wk (hmid22 (bu, bv) trivial)
        refine JA.mid (X := Nat × Nat) (fun ⟨bu, bv⟩ => True) (fun ⟨bu, bv⟩ => [(24, .pointer (some ⟨bv, 0, none⟩)), (23, .pointer (some ⟨bu, 0, none⟩)), (90, .agg (arr8 (ledC (m - bel n) (n - bel n) false x q).2.1)), (89, .agg (arr8 y.1)), (11, .pointer (some ⟨b11, 0, none⟩)), (12, .pointer (some ⟨b12, 0, none⟩)), (15, .pointer (some ⟨b15, 0, none⟩)), (21, .pointer (some ⟨b21, 0, none⟩)), (22, .pointer (some ⟨b22, 0, none⟩)), (20, Row.v (stepsN (m - bel n) (n - bel n) false x q).length r1)]) (fun ⟨bu, bv⟩ => ([(bv, Obj.cells (fl [zeroD, zeroD, zeroD]).toArray 123 (0, 0)), (bu, Obj.cells (fl [zeroD, zeroD, zeroD]).toArray 123 (0, 0)), (b22, Obj.cells (arr8 (ledC (m - bel n) (n - bel n) false x q).2.1) 33 (0, 0)), (b21, Obj.cells (arr8 (ledC (m - bel n) (n - bel n) false x q).1.1) 33 (0, 0)), (b15, Obj.cells (arr8 y.1) 33 (0, 0)), (b12, Obj.cells (arr8 (List.replicate 32 0)) 33 (0, 0)), (b11, Obj.cells (arr8 (List.replicate 32 0)) 33 (0, 0))] ++ Row.b 123 r1)) 6 #[false, false, false, true, true, false, true, true, false, false] ?_ (fun hmid41 => ?_)
        · -- state [3, 4, 6, 7]
          rintro ⟨bu, bv⟩ _
          refine JA.branch [0, 1] (by kernel_rfl) rfl ?_
          refine JAll.cons rfl ?_ ?_
          · -- 0
            refine JO.val rfl rfl rfl (.none rfl) (Ev.lB Tryd.underlying33 Tryd.sizeOf33) ?_
            exact JA.wk (hmid21 (bu, bv) trivial)
          refine JAll.cons rfl ?_ JAll.nil
          refine JO.val rfl rfl rfl (.none rfl) (Ev.lB Tryd.underlying33 Tryd.sizeOf33) ?_
          exact JA.wk (hmid22 (bu, bv) trivial)
        refine JA.mid (X := Nat × Nat) (fun ⟨bu, bv⟩ => True) (fun ⟨bu, bv⟩ => [(88, .agg (nfl [(y, (ledC (m - bel n) (n - bel n) false x q).1)]).toArray), (11, .pointer (some ⟨b11, 0, none⟩)), (12, .pointer (some ⟨b12, 0, none⟩)), (15, .pointer (some ⟨b15, 0, none⟩)), (21, .pointer (some ⟨b21, 0, none⟩)), (22, .pointer (some ⟨b22, 0, none⟩)), (20, Row.v (stepsN (m - bel n) (n - bel n) false x q).length r1)]) (fun ⟨bu, bv⟩ => ([(b22, Obj.cells (arr8 (ledC (m - bel n) (n - bel n) false x q).2.1) 33 (0, 0)), (b21, Obj.cells (arr8 (ledC (m - bel n) (n - bel n) false x q).1.1) 33 (0, 0)), (b15, Obj.cells (arr8 y.1) 33 (0, 0)), (b12, Obj.cells (arr8 (List.replicate 32 0)) 33 (0, 0)), (b11, Obj.cells (arr8 (List.replicate 32 0)) 33 (0, 0))] ++ Row.b 123 r1)) 7 #[true, true, true, false, false, false, false, false, false, false] ?_ (fun hmid42 => ?_)
        · -- state [0, 1, 2]
          rintro ⟨bu, bv⟩ _
          refine JA.branch [3, 4, 6, 7] (by kernel_rfl) rfl ?_
          refine JAll.cons rfl ?_ ?_
          · -- 3
            refine JO.val rfl rfl rfl (.none rfl) (Ev.lB Tryd.underlying33 Tryd.sizeOf33) ?_
            exact JA.wk (hmid23 (0, 0) trivial)
          refine JAll.cons rfl ?_ ?_
          · -- 4
            refine JO.val rfl rfl rfl (.none rfl) (Ev.lB Tryd.underlying33 Tryd.sizeOf33) ?_
            exact JA.wk (hmid24 (0, 0) trivial)
          refine JAll.cons rfl ?_ ?_
          · -- 6
            refine JO.new rfl rfl rfl (.none rfl) (En.allocZ (cs := (fl [zeroD, zeroD, zeroD]).toArray) Tryd.zeroValue123 rfl) (fun b23 hb23 => ?_)
            obtain ⟨bu, rfl⟩ : ∃ b, b = b23 := ⟨_, rfl⟩
            exact JA.wk (hmid25 (bu, 0) trivial)
          refine JAll.cons rfl ?_ JAll.nil
          refine JO.new rfl rfl rfl (.none rfl) (En.allocZ (cs := (fl [zeroD, zeroD, zeroD]).toArray) Tryd.zeroValue123 rfl) (fun b24 hb24 => ?_)
          obtain ⟨bv, rfl⟩ : ∃ b, b = b24 := ⟨_, rfl⟩
          exact JA.wk (hmid26 (0, bv) trivial)
        refine JA.mid (X := Nat × Nat) (fun ⟨bu, bv⟩ => True) (fun ⟨bu, bv⟩ => [(89, .agg (arr8 y.1)), (87, .agg (arr8 (ledC (m - bel n) (n - bel n) false x q).1.1)), (86, .agg (arr8 y.1)), (11, .pointer (some ⟨b11, 0, none⟩)), (12, .pointer (some ⟨b12, 0, none⟩)), (15, .pointer (some ⟨b15, 0, none⟩)), (21, .pointer (some ⟨b21, 0, none⟩)), (22, .pointer (some ⟨b22, 0, none⟩)), (20, Row.v (stepsN (m - bel n) (n - bel n) false x q).length r1)]) (fun ⟨bu, bv⟩ => ([(b22, Obj.cells (arr8 (ledC (m - bel n) (n - bel n) false x q).2.1) 33 (0, 0)), (b21, Obj.cells (arr8 (ledC (m - bel n) (n - bel n) false x q).1.1) 33 (0, 0)), (b15, Obj.cells (arr8 y.1) 33 (0, 0)), (b12, Obj.cells (arr8 (List.replicate 32 0)) 33 (0, 0)), (b11, Obj.cells (arr8 (List.replicate 32 0)) 33 (0, 0))] ++ Row.b 123 r1)) 7 #[true, true, false, true, false, false, false, false, false, false] ?_ (fun hmid43 => ?_)
        · -- state [0, 1, 3]
          rintro ⟨bu, bv⟩ _
          refine JA.branch [2, 4, 6, 7] (by kernel_rfl) rfl ?_
          refine JAll.cons rfl ?_ ?_
          · -- 2
            refine JO.callV rfl (.none rfl) rfl Tryd.call80 (fun w1 hw1 => fpair_any y (ledC (m - bel n) (n - bel n) false x q).1 w1 (hk.old hw1) (hf.old hw1)) ?_
            exact JA.wk (hmid23 (0, 0) trivial)
          refine JAll.cons rfl ?_ ?_
          · -- 4
            refine JO.val rfl rfl rfl (.none rfl) (Ev.lB Tryd.underlying33 Tryd.sizeOf33) ?_
            exact JA.wk (hmid27 (0, 0) trivial)
          refine JAll.cons rfl ?_ ?_
          · -- 6
            refine JO.new rfl rfl rfl (.none rfl) (En.allocZ (cs := (fl [zeroD, zeroD, zeroD]).toArray) Tryd.zeroValue123 rfl) (fun b23 hb23 => ?_)
            obtain ⟨bu, rfl⟩ : ∃ b, b = b23 := ⟨_, rfl⟩
            exact JA.wk (hmid28 (bu, 0) trivial)
          refine JAll.cons rfl ?_ JAll.nil
          refine JO.new rfl rfl rfl (.none rfl) (En.allocZ (cs := (fl [zeroD, zeroD, zeroD]).toArray) Tryd.zeroValue123 rfl) (fun b24 hb24 => ?_)
          obtain ⟨bv, rfl⟩ : ∃ b, b = b24 := ⟨_, rfl⟩
          exact JA.wk (hmid29 (0, bv) trivial)
        refine JA.mid (X := Nat × Nat) (fun ⟨bu, bv⟩ => True) (fun ⟨bu, bv⟩ => [(90, .agg (arr8 (ledC (m - bel n) (n - bel n) false x q).2.1)), (87, .agg (arr8 (ledC (m - bel n) (n - bel n) false x q).1.1)), (86, .agg (arr8 y.1)), (11, .pointer (some ⟨b11, 0, none⟩)), (12, .pointer (some ⟨b12, 0, none⟩)), (15, .pointer (some ⟨b15, 0, none⟩)), (21, .pointer (some ⟨b21, 0, none⟩)), (22, .pointer (some ⟨b22, 0, none⟩)), (20, Row.v (stepsN (m - bel n) (n - bel n) false x q).length r1)]) (fun ⟨bu, bv⟩ => ([(b22, Obj.cells (arr8 (ledC (m - bel n) (n - bel n) false x q).2.1) 33 (0, 0)), (b21, Obj.cells (arr8 (ledC (m - bel n) (n - bel n) false x q).1.1) 33 (0, 0)), (b15, Obj.cells (arr8 y.1) 33 (0, 0)), (b12, Obj.cells (arr8 (List.replicate 32 0)) 33 (0, 0)), (b11, Obj.cells (arr8 (List.replicate 32 0)) 33 (0, 0))] ++ Row.b 123 r1)) 7 #[true, true, false, false, true, false, false, false, false, false] ?_ (fun hmid44 => ?_)
        · -- state [0, 1, 4]
          rintro ⟨bu, bv⟩ _
          refine JA.branch [2, 3, 6, 7] (by kernel_rfl) rfl ?_
          refine JAll.cons rfl ?_ ?_
          · -- 2
            refine JO.callV rfl (.none rfl) rfl Tryd.call80 (fun w1 hw1 => fpair_any y (ledC (m - bel n) (n - bel n) false x q).1 w1 (hk.old hw1) (hf.old hw1)) ?_
            exact JA.wk (hmid24 (0, 0) trivial)
          refine JAll.cons rfl ?_ ?_
          · -- 3
            refine JO.val rfl rfl rfl (.none rfl) (Ev.lB Tryd.underlying33 Tryd.sizeOf33) ?_
            exact JA.wk (hmid27 (0, 0) trivial)
          refine JAll.cons rfl ?_ ?_
          · -- 6
            refine JO.new rfl rfl rfl (.none rfl) (En.allocZ (cs := (fl [zeroD, zeroD, zeroD]).toArray) Tryd.zeroValue123 rfl) (fun b23 hb23 => ?_)
            obtain ⟨bu, rfl⟩ : ∃ b, b = b23 := ⟨_, rfl⟩
            exact JA.wk (hmid30 (bu, 0) trivial)
          refine JAll.cons rfl ?_ JAll.nil
          refine JO.new rfl rfl rfl (.none rfl) (En.allocZ (cs := (fl [zeroD, zeroD, zeroD]).toArray) Tryd.zeroValue123 rfl) (fun b24 hb24 => ?_)
          obtain ⟨bv, rfl⟩ : ∃ b, b = b24 := ⟨_, rfl⟩
          exact JA.wk (hmid31 (0, bv) trivial)
        refine JA.mid (X := Nat × Nat) (fun ⟨bu, bv⟩ => True) (fun ⟨bu, bv⟩ => [(23, .pointer (some ⟨bu, 0, none⟩)), (87, .agg (arr8 (ledC (m - bel n) (n - bel n) false x q).1.1)), (86, .agg (arr8 y.1)), (11, .pointer (some ⟨b11, 0, none⟩)), (12, .pointer (some ⟨b12, 0, none⟩)), (15, .pointer (some ⟨b15, 0, none⟩)), (21, .pointer (some ⟨b21, 0, none⟩)), (22, .pointer (some ⟨b22, 0, none⟩)), (20, Row.v (stepsN (m - bel n) (n - bel n) false x q).length r1)]) (fun ⟨bu, bv⟩ => ([(bu, Obj.cells (fl [zeroD, zeroD, zeroD]).toArray 123 (0, 0)), (b22, Obj.cells (arr8 (ledC (m - bel n) (n - bel n) false x q).2.1) 33 (0, 0)), (b21, Obj.cells (arr8 (ledC (m - bel n) (n - bel n) false x q).1.1) 33 (0, 0)), (b15, Obj.cells (arr8 y.1) 33 (0, 0)), (b12, Obj.cells (arr8 (List.replicate 32 0)) 33 (0, 0)), (b11, Obj.cells (arr8 (List.replicate 32 0)) 33 (0, 0))] ++ Row.b 123 r1)) 7 #[true, true, false, false, false, false, true, false, false, false] ?_ (fun hmid45 => ?_)
        · -- state [0, 1, 6]
          rintro ⟨bu, bv⟩ _
          refine JA.branch [2, 3, 4, 7] (by kernel_rfl) rfl ?_
          refine JAll.cons rfl ?_ ?_
          · -- 2
            refine JO.callV rfl (.none rfl) rfl Tryd.call80 (fun w1 hw1 => fpair_any y (ledC (m - bel n) (n - bel n) false x q).1 w1 (hk.old hw1) (hf.old hw1)) ?_
            exact JA.wk (hmid25 (bu, 0) trivial)
          refine JAll.cons rfl ?_ ?_
          · -- 3
            refine JO.val rfl rfl rfl (.none rfl) (Ev.lB Tryd.underlying33 Tryd.sizeOf33) ?_
            exact JA.wk (hmid28 (bu, 0) trivial)
          refine JAll.cons rfl ?_ ?_
          · -- 4
            refine JO.val rfl rfl rfl (.none rfl) (Ev.lB Tryd.underlying33 Tryd.sizeOf33) ?_
            exact JA.wk (hmid30 (bu, 0) trivial)
          refine JAll.cons rfl ?_ JAll.nil
          refine JO.new rfl rfl rfl (.none rfl) (En.allocZ (cs := (fl [zeroD, zeroD, zeroD]).toArray) Tryd.zeroValue123 rfl) (fun b24 hb24 => ?_)
          obtain ⟨bv, rfl⟩ : ∃ b, b = b24 := ⟨_, rfl⟩
          exact JA.wk (hmid32 (bu, bv) trivial)
        refine JA.mid (X := Nat × Nat) (fun ⟨bu, bv⟩ => True) (fun ⟨bu, bv⟩ => [(24, .pointer (some ⟨bv, 0, none⟩)), (87, .agg (arr8 (ledC (m - bel n) (n - bel n) false x q).1.1)), (86, .agg (arr8 y.1)), (11, .pointer (some ⟨b11, 0, none⟩)), (12, .pointer (some ⟨b12, 0, none⟩)), (15, .pointer (some ⟨b15, 0, none⟩)), (21, .pointer (some ⟨b21, 0, none⟩)), (22, .pointer (some ⟨b22, 0, none⟩)), (20, Row.v (stepsN (m - bel n) (n - bel n) false x q).length r1)]) (fun ⟨bu, bv⟩ => ([(bv, Obj.cells (fl [zeroD, zeroD, zeroD]).toArray 123 (0, 0)), (b22, Obj.cells (arr8 (ledC (m - bel n) (n - bel n) false x q).2.1) 33 (0, 0)), (b21, Obj.cells (arr8 (ledC (m - bel n) (n - bel n) false x q).1.1) 33 (0, 0)), (b15, Obj.cells (arr8 y.1) 33 (0, 0)), (b12, Obj.cells (arr8 (List.replicate 32 0)) 33 (0, 0)), (b11, Obj.cells (arr8 (List.replicate 32 0)) 33 (0, 0))] ++ Row.b 123 r1)) 7 #[true, true, false, false, false, false, false, true, false, false] ?_ (fun hmid46 => ?_)
        · -- state [0, 1, 7]
          rintro ⟨bu, bv⟩ _
          refine JA.branch [2, 3, 4, 6] (by kernel_rfl) rfl ?_
          refine JAll.cons rfl ?_ ?_
          · -- 2
            refine JO.callV rfl (.none rfl) rfl Tryd.call80 (fun w1 hw1 => fpair_any y (ledC (m - bel n) (n - bel n) false x q).1 w1 (hk.old hw1) (hf.old hw1)) ?_
            exact JA.wk (hmid26 (0, bv) trivial)
          refine JAll.cons rfl ?_ ?_
          · -- 3
            refine JO.val rfl rfl rfl (.none rfl) (Ev.lB Tryd.underlying33 Tryd.sizeOf33) ?_
            exact JA.wk (hmid29 (0, bv) trivial)
          refine JAll.cons rfl ?_ ?_
          · -- 4
            refine JO.val rfl rfl rfl (.none rfl) (Ev.lB Tryd.underlying33 Tryd.sizeOf33) ?_
            exact JA.wk (hmid31 (0, bv) trivial)
          refine JAll.cons rfl ?_ JAll.nil
          refine JO.new rfl rfl rfl (.none rfl) (En.allocZ (cs := (fl [zeroD, zeroD, zeroD]).toArray) Tryd.zeroValue123 rfl) (fun b23 hb23 => ?_)
          obtain ⟨bu, rfl⟩ : ∃ b, b = b23 := ⟨_, rfl⟩
          exact JA.wk (hmid32 (bu, bv) trivial)
        refine JA.mid (X := Nat × Nat) (fun ⟨bu, bv⟩ => True) (fun ⟨bu, bv⟩ => [(90, .agg (arr8 (ledC (m - bel n) (n - bel n) false x q).2.1)), (89, .agg (arr8 y.1)), (86, .agg (arr8 y.1)), (11, .pointer (some ⟨b11, 0, none⟩)), (12, .pointer (some ⟨b12, 0, none⟩)), (15, .pointer (some ⟨b15, 0, none⟩)), (21, .pointer (some ⟨b21, 0, none⟩)), (22, .pointer (some ⟨b22, 0, none⟩)), (20, Row.v (stepsN (m - bel n) (n - bel n) false x q).length r1)]) (fun ⟨bu, bv⟩ => ([(b22, Obj.cells (arr8 (ledC (m - bel n) (n - bel n) false x q).2.1) 33 (0, 0)), (b21, Obj.cells (arr8 (ledC (m - bel n) (n - bel n) false x q).1.1) 33 (0, 0)), (b15, Obj.cells (arr8 y.1) 33 (0, 0)), (b12, Obj.cells (arr8 (List.replicate 32 0)) 33 (0, 0)), (b11, Obj.cells (arr8 (List.replicate 32 0)) 33 (0, 0))] ++ Row.b 123 r1)) 7 #[true, false, false, true, true, false, false, false, false, false] ?_ (fun hmid47 => ?_)
        · -- state [0, 3, 4]
          rintro ⟨bu, bv⟩ _
          refine JA.branch [1, 6, 7] (by kernel_rfl) rfl ?_
          refine JAll.cons rfl ?_ ?_
          · -- 1
            refine JO.val rfl rfl rfl (.none rfl) (Ev.lB Tryd.underlying33 Tryd.sizeOf33) ?_
            exact JA.wk (hmid27 (0, 0) trivial)
          refine JAll.cons rfl ?_ ?_
          · -- 6
            refine JO.new rfl rfl rfl (.none rfl) (En.allocZ (cs := (fl [zeroD, zeroD, zeroD]).toArray) Tryd.zeroValue123 rfl) (fun b23 hb23 => ?_)
            obtain ⟨bu, rfl⟩ : ∃ b, b = b23 := ⟨_, rfl⟩
            exact JA.wk (hmid33 (bu, 0) trivial)
          refine JAll.cons rfl ?_ JAll.nil
          refine JO.new rfl rfl rfl (.none rfl) (En.allocZ (cs := (fl [zeroD, zeroD, zeroD]).toArray) Tryd.zeroValue123 rfl) (fun b24 hb24 => ?_)
          obtain ⟨bv, rfl⟩ : ∃ b, b = b24 := ⟨_, rfl⟩
          exact JA.wk (hmid34 (0, bv) trivial)
        refine JA.mid (X := Nat × Nat) (fun ⟨bu, bv⟩ => True) (fun ⟨bu, bv⟩ => [(23, .pointer (some ⟨bu, 0, none⟩)), (89, .agg (arr8 y.1)), (86, .agg (arr8 y.1)), (11, .pointer (some ⟨b11, 0, none⟩)), (12, .pointer (some ⟨b12, 0, none⟩)), (15, .pointer (some ⟨b15, 0, none⟩)), (21, .pointer (some ⟨b21, 0, none⟩)), (22, .pointer (some ⟨b22, 0, none⟩)), (20, Row.v (stepsN (m - bel n) (n - bel n) false x q).length r1)]) (fun ⟨bu, bv⟩ => ([(bu, Obj.cells (fl [zeroD, zeroD, zeroD]).toArray 123 (0, 0)), (b22, Obj.cells (arr8 (ledC (m - bel n) (n - bel n) false x q).2.1) 33 (0, 0)), (b21, Obj.cells (arr8 (ledC (m - bel n) (n - bel n) false x q).1.1) 33 (0, 0)), (b15, Obj.cells (arr8 y.1) 33 (0, 0)), (b12, Obj.cells (arr8 (List.replicate 32 0)) 33 (0, 0)), (b11, Obj.cells (arr8 (List.replicate 32 0)) 33 (0, 0))] ++ Row.b 123 r1)) 7 #[true, false, false, true, false, false, true, false, false, false] ?_ (fun hmid48 => ?_)
        · -- state [0, 3, 6]
          rintro ⟨bu, bv⟩ _
          refine JA.branch [1, 4, 7] (by kernel_rfl) rfl ?_
          refine JAll.cons rfl ?_ ?_
          · -- 1
            refine JO.val rfl rfl rfl (.none rfl) (Ev.lB Tryd.underlying33 Tryd.sizeOf33) ?_
            exact JA.wk (hmid28 (bu, 0) trivial)
          refine JAll.cons rfl ?_ ?_
          · -- 4
            refine JO.val rfl rfl rfl (.none rfl) (Ev.lB Tryd.underlying33 Tryd.sizeOf33) ?_
            exact JA.wk (hmid33 (bu, 0) trivial)
          refine JAll.cons rfl ?_ JAll.nil
          refine JO.new rfl rfl rfl (.none rfl) (En.allocZ (cs := (fl [zeroD, zeroD, zeroD]).toArray) Tryd.zeroValue123 rfl) (fun b24 hb24 => ?_)
          obtain ⟨bv, rfl⟩ : ∃ b, b = b24 := ⟨_, rfl⟩
          exact JA.wk (hmid35 (bu, bv) trivial)
        refine JA.mid (X := Nat × Nat) (fun ⟨bu, bv⟩ => True) (fun ⟨bu, bv⟩ => [(24, .pointer (some ⟨bv, 0, none⟩)), (89, .agg (arr8 y.1)), (86, .agg (arr8 y.1)), (11, .pointer (some ⟨b11, 0, none⟩)), (12, .pointer (some ⟨b12, 0, none⟩)), (15, .pointer (some ⟨b15, 0, none⟩)), (21, .pointer (some ⟨b21, 0, none⟩)), (22, .pointer (some ⟨b22, 0, none⟩)), (20, Row.v (stepsN (m - bel n) (n - bel n) false x q).length r1)]) (fun ⟨bu, bv⟩ => ([(bv, Obj.cells (fl [zeroD, zeroD, zeroD]).toArray 123 (0, 0)), (b22, Obj.cells (arr8 (ledC (m - bel n) (n - bel n) false x q).2.1) 33 (0, 0)), (b21, Obj.cells (arr8 (ledC (m - bel n) (n - bel n) false x q).1.1) 33 (0, 0)), (b15, Obj.cells (arr8 y.1) 33 (0, 0)), (b12, Obj.cells (arr8 (List.replicate 32 0)) 33 (0, 0)), (b11, Obj.cells (arr8 (List.replicate 32 0)) 33 (0, 0))] ++ Row.b 123 r1)) 7 #[true, false, false, true, false, false, false, true, false, false] ?_ (fun hmid49 => ?_)
        · -- state [0, 3, 7]
          rintro ⟨bu, bv⟩ _
          refine JA.branch [1, 4, 6] (by kernel_rfl) rfl ?_
          refine JAll.cons rfl ?_ ?_
          · -- 1
            refine JO.val rfl rfl rfl (.none rfl) (Ev.lB Tryd.underlying33 Tryd.sizeOf33) ?_
            exact JA.wk (hmid29 (0, bv) trivial)
          refine JAll.cons rfl ?_ ?_
          · -- 4
            refine JO.val rfl rfl rfl (.none rfl) (Ev.lB Tryd.underlying33 Tryd.sizeOf33) ?_
            exact JA.wk (hmid34 (0, bv) trivial)
          refine JAll.cons rfl ?_ JAll.nil
          refine JO.new rfl rfl rfl (.none rfl) (En.allocZ (cs := (fl [zeroD, zeroD, zeroD]).toArray) Tryd.zeroValue123 rfl) (fun b23 hb23 => ?_)
          obtain ⟨bu, rfl⟩ : ∃ b, b = b23 := ⟨_, rfl⟩
          exact JA.wk (hmid35 (bu, bv) trivial)
        refine JA.mid (X := Nat × Nat) (fun ⟨bu, bv⟩ => True) (fun ⟨bu, bv⟩ => [(23, .pointer (some ⟨bu, 0, none⟩)), (90, .agg (arr8 (ledC (m - bel n) (n - bel n) false x q).2.1)), (86, .agg (arr8 y.1)), (11, .pointer (some ⟨b11, 0, none⟩)), (12, .pointer (some ⟨b12, 0, none⟩)), (15, .pointer (some ⟨b15, 0, none⟩)), (21, .pointer (some ⟨b21, 0, none⟩)), (22, .pointer (some ⟨b22, 0, none⟩)), (20, Row.v (stepsN (m - bel n) (n - bel n) false x q).length r1)]) (fun ⟨bu, bv⟩ => ([(bu, Obj.cells (fl [zeroD, zeroD, zeroD]).toArray 123 (0, 0)), (b22, Obj.cells (arr8 (ledC (m - bel n) (n - bel n) false x q).2.1) 33 (0, 0)), (b21, Obj.cells (arr8 (ledC (m - bel n) (n - bel n) false x q).1.1) 33 (0, 0)), (b15, Obj.cells (arr8 y.1) 33 (0, 0)), (b12, Obj.cells (arr8 (List.replicate 32 0)) 33 (0, 0)), (b11, Obj.cells (arr8 (List.replicate 32 0)) 33 (0, 0))] ++ Row.b 123 r1)) 7 #[true, false, false, false, true, false, true, false, false, false] ?_ (fun hmid50 => ?_)
        · -- state [0, 4, 6]
          rintro ⟨bu, bv⟩ _
          refine JA.branch [1, 3, 7] (by kernel_rfl) rfl ?_
          refine JAll.cons rfl ?_ ?_
          · -- 1
            refine JO.val rfl rfl rfl (.none rfl) (Ev.lB Tryd.underlying33 Tryd.sizeOf33) ?_
            exact JA.wk (hmid30 (bu, 0) trivial)
          refine JAll.cons rfl ?_ ?_
          · -- 3
            refine JO.val rfl rfl rfl (.none rfl) (Ev.lB Tryd.underlying33 Tryd.sizeOf33) ?_
            exact JA.wk (hmid33 (bu, 0) trivial)
          refine JAll.cons rfl ?_ JAll.nil
          refine JO.new rfl rfl rfl (.none rfl) (En.allocZ (cs := (fl [zeroD, zeroD, zeroD]).toArray) Tryd.zeroValue123 rfl) (fun b24 hb24 => ?_)
          obtain ⟨bv, rfl⟩ : ∃ b, b = b24 := ⟨_, rfl⟩
          exact JA.wk (hmid36 (bu, bv) trivial)
        refine JA.mid (X := Nat × Nat) (fun ⟨bu, bv⟩ => True) (fun ⟨bu, bv⟩ => [(24, .pointer (some ⟨bv, 0, none⟩)), (90, .agg (arr8 (ledC (m - bel n) (n - bel n) false x q).2.1)), (86, .agg (arr8 y.1)), (11, .pointer (some ⟨b11, 0, none⟩)), (12, .pointer (some ⟨b12, 0, none⟩)), (15, .pointer (some ⟨b15, 0, none⟩)), (21, .pointer (some ⟨b21, 0, none⟩)), (22, .pointer (some ⟨b22, 0, none⟩)), (20, Row.v (stepsN (m - bel n) (n - bel n) false x q).length r1)]) (fun ⟨bu, bv⟩ => ([(bv, Obj.cells (fl [zeroD, zeroD, zeroD]).toArray 123 (0, 0)), (b22, Obj.cells (arr8 (ledC (m - bel n) (n - bel n) false x q).2.1) 33 (0, 0)), (b21, Obj.cells (arr8 (ledC (m - bel n) (n - bel n) false x q).1.1) 33 (0, 0)), (b15, Obj.cells (arr8 y.1) 33 (0, 0)), (b12, Obj.cells (arr8 (List.replicate 32 0)) 33 (0, 0)), (b11, Obj.cells (arr8 (List.replicate 32 0)) 33 (0, 0))] ++ Row.b 123 r1)) 7 #[true, false, false, false, true, false, false, true, false, false] ?_ (fun hmid51 => ?_)
        · -- state [0, 4, 7]
          rintro ⟨bu, bv⟩ _
          refine JA.branch [1, 3, 6] (by kernel_rfl) rfl ?_
          refine JAll.cons rfl ?_ ?_
          · -- 1
            refine JO.val rfl rfl rfl (.none rfl) (Ev.lB Tryd.underlying33 Tryd.sizeOf33) ?_
            exact JA.wk (hmid31 (0, bv) trivial)
          refine JAll.cons rfl ?_ ?_
          · -- 3
            refine JO.val rfl rfl rfl (.none rfl) (Ev.lB Tryd.underlying33 Tryd.sizeOf33) ?_
            exact JA.wk (hmid34 (0, bv) trivial)
          refine JAll.cons rfl ?_ JAll.nil
          refine JO.new rfl rfl rfl (.none rfl) (En.allocZ (cs := (fl [zeroD, zeroD, zeroD]).toArray) Tryd.zeroValue123 rfl) (fun b23 hb23 => ?_)
          obtain ⟨bu, rfl⟩ : ∃ b, b = b23 := ⟨_, rfl⟩
          exact JA.wk (hmid36 (bu, bv) trivial)
        refine JA.mid (X := Nat × Nat) (fun ⟨bu, bv⟩ => True) (fun ⟨bu, bv⟩ => [(24, .pointer (some ⟨bv, 0, none⟩)), (23, .pointer (some ⟨bu, 0, none⟩)), (86, .agg (arr8 y.1)), (11, .pointer (some ⟨b11, 0, none⟩)), (12, .pointer (some ⟨b12, 0, none⟩)), (15, .pointer (some ⟨b15, 0, none⟩)), (21, .pointer (some ⟨b21, 0, none⟩)), (22, .pointer (some ⟨b22, 0, none⟩)), (20, Row.v (stepsN (m - bel n) (n - bel n) false x q).length r1)]) (fun ⟨bu, bv⟩ => ([(bv, Obj.cells (fl [zeroD, zeroD, zeroD]).toArray 123 (0, 0)), (bu, Obj.cells (fl [zeroD, zeroD, zeroD]).toArray 123 (0, 0)), (b22, Obj.cells (arr8 (ledC (m - bel n) (n - bel n) false x q).2.1) 33 (0, 0)), (b21, Obj.cells (arr8 (ledC (m - bel n) (n - bel n) false x q).1.1) 33 (0, 0)), (b15, Obj.cells (arr8 y.1) 33 (0, 0)), (b12, Obj.cells (arr8 (List.replicate 32 0)) 33 (0, 0)), (b11, Obj.cells (arr8 (List.replicate 32 0)) 33 (0, 0))] ++ Row.b 123 r1)) 7 #[true, false, false, false, false, false, true, true, false, false] ?_ (fun hmid52 => ?_)
        · -- state [0, 6, 7]
          rintro ⟨bu, bv⟩ _
          refine JA.branch [1, 3, 4] (by kernel_rfl) rfl ?_
          refine JAll.cons rfl ?_ ?_
          · -- 1
            refine JO.val rfl rfl rfl (.none rfl) (Ev.lB Tryd.underlying33 Tryd.sizeOf33) ?_
            exact JA.wk (hmid32 (bu, bv) trivial)
          refine JAll.cons rfl ?_ ?_
          · -- 3
            refine JO.val rfl rfl rfl (.none rfl) (Ev.lB Tryd.underlying33 Tryd.sizeOf33) ?_
            exact JA.wk (hmid35 (bu, bv) trivial)
          refine JAll.cons rfl ?_ JAll.nil
          refine JO.val rfl rfl rfl (.none rfl) (Ev.lB Tryd.underlying33 Tryd.sizeOf33) ?_
          exact JA.wk (hmid36 (bu, bv) trivial)
        refine JA.mid (X := Nat × Nat) (fun ⟨bu, bv⟩ => True) (fun ⟨bu, bv⟩ => [(90, .agg (arr8 (ledC (m - bel n) (n - bel n) false x q).2.1)), (89, .agg (arr8 y.1)), (87, .agg (arr8 (ledC (m - bel n) (n - bel n) false x q).1.1)), (11, .pointer (some ⟨b11, 0, none⟩)), (12, .pointer (some ⟨b12, 0, none⟩)), (15, .pointer (some ⟨b15, 0, none⟩)), (21, .pointer (some ⟨b21, 0, none⟩)), (22, .pointer (some ⟨b22, 0, none⟩)), (20, Row.v (stepsN (m - bel n) (n - bel n) false x q).length r1)]) (fun ⟨bu, bv⟩ => ([(b22, Obj.cells (arr8 (ledC (m - bel n) (n - bel n) false x q).2.1) 33 (0, 0)), (b21, Obj.cells (arr8 (ledC (m - bel n) (n - bel n) false x q).1.1) 33 (0, 0)), (b15, Obj.cells (arr8 y.1) 33 (0, 0)), (b12, Obj.cells (arr8 (List.replicate 32 0)) 33 (0, 0)), (b11, Obj.cells (arr8 (List.replicate 32 0)) 33 (0, 0))] ++ Row.b 123 r1)) 7 #[false, true, false, true, true, false, false, false, false, false] ?_ (fun hmid53 => ?_)
        · -- state [1, 3, 4]
          rintro ⟨bu, bv⟩ _
          refine JA.branch [0, 6, 7] (by kernel_rfl) rfl ?_
          refine JAll.cons rfl ?_ ?_
          · -- 0
            refine JO.val rfl rfl rfl (.none rfl) (Ev.lB Tryd.underlying33 Tryd.sizeOf33) ?_
            exact JA.wk (hmid27 (0, 0) trivial)
          refine JAll.cons rfl ?_ ?_
          · -- 6
            refine JO.new rfl rfl rfl (.none rfl) (En.allocZ (cs := (fl [zeroD, zeroD, zeroD]).toArray) Tryd.zeroValue123 rfl) (fun b23 hb23 => ?_)
            obtain ⟨bu, rfl⟩ : ∃ b, b = b23 := ⟨_, rfl⟩
            exact JA.wk (hmid37 (bu, 0) trivial)
          refine JAll.cons rfl ?_ JAll.nil
          refine JO.new rfl rfl rfl (.none rfl) (En.allocZ (cs := (fl [zeroD, zeroD, zeroD]).toArray) Tryd.zeroValue123 rfl) (fun b24 hb24 => ?_)
          obtain ⟨bv, rfl⟩ : ∃ b, b = b24 := ⟨_, rfl⟩
          exact JA.wk (hmid38 (0, bv) trivial)
        refine JA.mid (X := Nat × Nat) (fun ⟨bu, bv⟩ => True) (fun ⟨bu, bv⟩ => [(23, .pointer (some ⟨bu, 0, none⟩)), (89, .agg (arr8 y.1)), (87, .agg (arr8 (ledC (m - bel n) (n - bel n) false x q).1.1)), (11, .pointer (some ⟨b11, 0, none⟩)), (12, .pointer (some ⟨b12, 0, none⟩)), (15, .pointer (some ⟨b15, 0, none⟩)), (21, .pointer (some ⟨b21, 0, none⟩)), (22, .pointer (some ⟨b22, 0, none⟩)), (20, Row.v (stepsN (m - bel n) (n - bel n) false x q).length r1)]) (fun ⟨bu, bv⟩ => ([(bu, Obj.cells (fl [zeroD, zeroD, zeroD]).toArray 123 (0, 0)), (b22, Obj.cells (arr8 (ledC (m - bel n) (n - bel n) false x q).2.1) 33 (0, 0)), (b21, Obj.cells (arr8 (ledC (m - bel n) (n - bel n) false x q).1.1) 33 (0, 0)), (b15, Obj.cells (arr8 y.1) 33 (0, 0)), (b12, Obj.cells (arr8 (List.replicate 32 0)) 33 (0, 0)), (b11, Obj.cells (arr8 (List.replicate 32 0)) 33 (0, 0))] ++ Row.b 123 r1)) 7 #[false, true, false, true, false, false, true, false, false, false] ?_ (fun hmid54 => ?_)
        · -- state [1, 3, 6]
          rintro ⟨bu, bv⟩ _
          refine JA.branch [0, 4, 7] (by kernel_rfl) rfl ?_
          refine JAll.cons rfl ?_ ?_
          · -- 0
            refine JO.val rfl rfl rfl (.none rfl) (Ev.lB Tryd.underlying33 Tryd.sizeOf33) ?_
            exact JA.wk (hmid28 (bu, 0) trivial)
          refine JAll.cons rfl ?_ ?_
          · -- 4
            refine JO.val rfl rfl rfl (.none rfl) (Ev.lB Tryd.underlying33 Tryd.sizeOf33) ?_
            exact JA.wk (hmid37 (bu, 0) trivial)
          refine JAll.cons rfl ?_ JAll.nil
          refine JO.new rfl rfl rfl (.none rfl) (En.allocZ (cs := (fl [zeroD, zeroD, zeroD]).toArray) Tryd.zeroValue123 rfl) (fun b24 hb24 => ?_)
          obtain ⟨bv, rfl⟩ : ∃ b, b = b24 := ⟨_, rfl⟩
          exact JA.wk (hmid39 (bu, bv) trivial)
        refine JA.mid (X := Nat × Nat) (fun ⟨bu, bv⟩ => True) (fun ⟨bu, bv⟩ => [(24, .pointer (some ⟨bv, 0, none⟩)), (89, .agg (arr8 y.1)), (87, .agg (arr8 (ledC (m - bel n) (n - bel n) false x q).1.1)), (11, .pointer (some ⟨b11, 0, none⟩)), (12, .pointer (some ⟨b12, 0, none⟩)), (15, .pointer (some ⟨b15, 0, none⟩)), (21, .pointer (some ⟨b21, 0, none⟩)), (22, .pointer (some ⟨b22, 0, none⟩)), (20, Row.v (stepsN (m - bel n) (n - bel n) false x q).length r1)]) (fun ⟨bu, bv⟩ => ([(bv, Obj.cells (fl [zeroD, zeroD, zeroD]).toArray 123 (0, 0)), (b22, Obj.cells (arr8 (ledC (m - bel n) (n - bel n) false x q).2.1) 33 (0, 0)), (b21, Obj.cells (arr8 (ledC (m - bel n) (n - bel n) false x q).1.1) 33 (0, 0)), (b15, Obj.cells (arr8 y.1) 33 (0, 0)), (b12, Obj.cells (arr8 (List.replicate 32 0)) 33 (0, 0)), (b11, Obj.cells (arr8 (List.replicate 32 0)) 33 (0, 0))] ++ Row.b 123 r1)) 7 #[false, true, false, true, false, false, false, true, false, false] ?_ (fun hmid55 => ?_)
        · -- state [1, 3, 7]
          rintro ⟨bu, bv⟩ _
          refine JA.branch [0, 4, 6] (by kernel_rfl) rfl ?_
          refine JAll.cons rfl ?_ ?_
          · -- 0
            refine JO.val rfl rfl rfl (.none rfl) (Ev.lB Tryd.underlying33 Tryd.sizeOf33) ?_
            exact JA.wk (hmid29 (0, bv) trivial)
          refine JAll.cons rfl ?_ ?_
          · -- 4
            refine JO.val rfl rfl rfl (.none rfl) (Ev.lB Tryd.underlying33 Tryd.sizeOf33) ?_
            exact JA.wk (hmid38 (0, bv) trivial)
          refine JAll.cons rfl ?_ JAll.nil
          refine JO.new rfl rfl rfl (.none rfl) (En.allocZ (cs := (fl [zeroD, zeroD, zeroD]).toArray) Tryd.zeroValue123 rfl) (fun b23 hb23 => ?_)
          obtain ⟨bu, rfl⟩ : ∃ b, b = b23 := ⟨_, rfl⟩
          exact JA.wk (hmid39 (bu, bv) trivial)
        refine JA.mid (X := Nat × Nat) (fun ⟨bu, bv⟩ => True) (fun ⟨bu, bv⟩ => [(23, .pointer (some ⟨bu, 0, none⟩)), (90, .agg (arr8 (ledC (m - bel n) (n - bel n) false x q).2.1)), (87, .agg (arr8 (ledC (m - bel n) (n - bel n) false x q).1.1)), (11, .pointer (some ⟨b11, 0, none⟩)), (12, .pointer (some ⟨b12, 0, none⟩)), (15, .pointer (some ⟨b15, 0, none⟩)), (21, .pointer (some ⟨b21, 0, none⟩)), (22, .pointer (some ⟨b22, 0, none⟩)), (20, Row.v (stepsN (m - bel n) (n - bel n) false x q).length r1)]) (fun ⟨bu, bv⟩ => ([(bu, Obj.cells (fl [zeroD, zeroD, zeroD]).toArray 123 (0, 0)), (b22, Obj.cells (arr8 (ledC (m - bel n) (n - bel n) false x q).2.1) 33 (0, 0)), (b21, Obj.cells (arr8 (ledC (m - bel n) (n - bel n) false x q).1.1) 33 (0, 0)), (b15, Obj.cells (arr8 y.1) 33 (0, 0)), (b12, Obj.cells (arr8 (List.replicate 32 0)) 33 (0, 0)), (b11, Obj.cells (arr8 (List.replicate 32 0)) 33 (0, 0))] ++ Row.b 123 r1)) 7 #[false, true, false, false, true, false, true, false, false, false] ?_ (fun hmid56 => ?_)
        · -- state [1, 4, 6]
          rintro ⟨bu, bv⟩ _
          refine JA.branch [0, 3, 7] (by kernel_rfl) rfl ?_
          refine JAll.cons rfl ?_ ?_
          · -- 0
            refine JO.val rfl rfl rfl (.none rfl) (Ev.lB Tryd.underlying33 Tryd.sizeOf33) ?_
            exact JA.wk (hmid30 (bu, 0) trivial)
          refine JAll.cons rfl ?_ ?_
          · -- 3
            refine JO.val rfl rfl rfl (.none rfl) (Ev.lB Tryd.underlying33 Tryd.sizeOf33) ?_
            exact JA.wk (hmid37 (bu, 0) trivial)
          refine JAll.cons rfl ?_ JAll.nil
          refine JO.new rfl rfl rfl (.none rfl) (En.allocZ (cs := (fl [zeroD, zeroD, zeroD]).toArray) Tryd.zeroValue123 rfl) (fun b24 hb24 => ?_)
          obtain ⟨bv, rfl⟩ : ∃ b, b = b24 := ⟨_, rfl⟩
          exact JA.wk (hmid40 (bu, bv) trivial)
        refine JA.mid (X := Nat × Nat) (fun ⟨bu, bv⟩ => True) (fun ⟨bu, bv⟩ => [(24, .pointer (some ⟨bv, 0, none⟩)), (90, .agg (arr8 (ledC (m - bel n) (n - bel n) false x q).2.1)), (87, .agg (arr8 (ledC (m - bel n) (n - bel n) false x q).1.1)), (11, .pointer (some ⟨b11, 0, none⟩)), (12, .pointer (some ⟨b12, 0, none⟩)), (15, .pointer (some ⟨b15, 0, none⟩)), (21, .pointer (some ⟨b21, 0, none⟩)), (22, .pointer (some ⟨b22, 0, none⟩)), (20, Row.v (stepsN (m - bel n) (n - bel n) false x q).length r1)]) (fun ⟨bu, bv⟩ => ([(bv, Obj.cells (fl [zeroD, zeroD, zeroD]).toArray 123 (0, 0)), (b22, Obj.cells (arr8 (ledC (m - bel n) (n - bel n) false x q).2.1) 33 (0, 0)), (b21, Obj.cells (arr8 (ledC (m - bel n) (n - bel n) false x q).1.1) 33 (0, 0)), (b15, Obj.cells (arr8 y.1) 33 (0, 0)), (b12, Obj.cells (arr8 (List.replicate 32 0)) 33 (0, 0)), (b11, Obj.cells (arr8 (List.replicate 32 0)) 33 (0, 0))] ++ Row.b 123 r1)) 7 #[false, true, false, false, true, false, false, true, false, false] ?_ (fun hmid57 => ?_)
        · -- state [1, 4, 7]
          rintro ⟨bu, bv⟩ _
          refine JA.branch [0, 3, 6] (by kernel_rfl) rfl ?_
          refine JAll.cons rfl ?_ ?_
          · -- 0
            refine JO.val rfl rfl rfl (.none rfl) (Ev.lB Tryd.underlying33 Tryd.sizeOf33) ?_
            exact JA.wk (hmid31 (0, bv) trivial)
          refine JAll.cons rfl ?_ ?_
          · -- 3
            refine JO.val rfl rfl rfl (.none rfl) (Ev.lB Tryd.underlying33 Tryd.sizeOf33) ?_
            exact JA.wk (hmid38 (0, bv) trivial)
          refine JAll.cons rfl ?_ JAll.nil
          refine JO.new rfl rfl rfl (.none rfl) (En.allocZ (cs := (fl [zeroD, zeroD, zeroD]).toArray) Tryd.zeroValue123 rfl) (fun b23 hb23 => ?_)
          obtain ⟨bu, rfl⟩ : ∃ b, b = b23 := ⟨_, rfl⟩
          exact JA.wk (hmid40 (bu, bv) trivial)
        refine JA.mid (X := Nat × Nat) (fun ⟨bu, bv⟩ => True) (fun ⟨bu, bv⟩ => [(24, .pointer (some ⟨bv, 0, none⟩)), (23, .pointer (some ⟨bu, 0, none⟩)), (87, .agg (arr8 (ledC (m - bel n) (n - bel n) false x q).1.1)), (11, .pointer (some ⟨b11, 0, none⟩)), (12, .pointer (some ⟨b12, 0, none⟩)), (15, .pointer (some ⟨b15, 0, none⟩)), (21, .pointer (some ⟨b21, 0, none⟩)), (22, .pointer (some ⟨b22, 0, none⟩)), (20, Row.v (stepsN (m - bel n) (n - bel n) false x q).length r1)]) (fun ⟨bu, bv⟩ => ([(bv, Obj.cells (fl [zeroD, zeroD, zeroD]).toArray 123 (0, 0)), (bu, Obj.cells (fl [zeroD, zeroD, zeroD]).toArray 123 (0, 0)), (b22, Obj.cells (arr8 (ledC (m - bel n) (n - bel n) false x q).2.1) 33 (0, 0)), (b21, Obj.cells (arr8 (ledC (m - bel n) (n - bel n) false x q).1.1) 33 (0, 0)), (b15, Obj.cells (arr8 y.1) 33 (0, 0)), (b12, Obj.cells (arr8 (List.replicate 32 0)) 33 (0, 0)), (b11, Obj.cells (arr8 (List.replicate 32 0)) 33 (0, 0))] ++ Row.b 123 r1)) 7 #[false, true, false, false, false, false, true, true, false, false] ?_ (fun hmid58 => ?_)
        · -- state [1, 6, 7]
          rintro ⟨bu, bv⟩ _
          refine JA.branch [0, 3, 4] (by kernel_rfl) rfl ?_
          refine JAll.cons rfl ?_ ?_
          · -- 0
            refine JO.val rfl rfl rfl (.none rfl) (Ev.lB Tryd.underlying33 Tryd.sizeOf33) ?_
            exact JA.wk (hmid32 (bu, bv) trivial)
          refine JAll.cons rfl ?_ ?_
          · -- 3
            refine JO.val rfl rfl rfl (.none rfl) (Ev.lB Tryd.underlying33 Tryd.sizeOf33) ?_
            exact JA.wk (hmid39 (bu, bv) trivial)
          refine JAll.cons rfl ?_ JAll.nil
          refine JO.val rfl rfl rfl (.none rfl) (Ev.lB Tryd.underlying33 Tryd.sizeOf33) ?_
          exact JA.wk (hmid40 (bu, bv) trivial)
        refine JA.mid (X := Nat × Nat) (fun ⟨bu, bv⟩ => True) (fun ⟨bu, bv⟩ => [(23, .pointer (some ⟨bu, 0, none⟩)), (90, .agg (arr8 (ledC (m - bel n) (n - bel n) false x q).2.1)), (89, .agg (arr8 y.1)), (11, .pointer (some ⟨b11, 0, none⟩)), (12, .pointer (some ⟨b12, 0, none⟩)), (15, .pointer (some ⟨b15, 0, none⟩)), (21, .pointer (some ⟨b21, 0, none⟩)), (22, .pointer (some ⟨b22, 0, none⟩)), (20, Row.v (stepsN (m - bel n) (n - bel n) false x q).length r1)]) (fun ⟨bu, bv⟩ => ([(bu, Obj.cells (fl [zeroD, zeroD, zeroD]).toArray 123 (0, 0)), (b22, Obj.cells (arr8 (ledC (m - bel n) (n - bel n) false x q).2.1) 33 (0, 0)), (b21, Obj.cells (arr8 (ledC (m - bel n) (n - bel n) false x q).1.1) 33 (0, 0)), (b15, Obj.cells (arr8 y.1) 33 (0, 0)), (b12, Obj.cells (arr8 (List.replicate 32 0)) 33 (0, 0)), (b11, Obj.cells (arr8 (List.replicate 32 0)) 33 (0, 0))] ++ Row.b 123 r1)) 7 #[false, false, false, true, true, false, true, false, false, false] ?_ (fun hmid59 => ?_)
        · -- state [3, 4, 6]
          rintro ⟨bu, bv⟩ _
          refine JA.branch [0, 1, 7] (by kernel_rfl) rfl ?_
          refine JAll.cons rfl ?_ ?_
          · -- 0
            refine JO.val rfl rfl rfl (.none rfl) (Ev.lB Tryd.underlying33 Tryd.sizeOf33) ?_
            exact JA.wk (hmid33 (bu, 0) trivial)
          refine JAll.cons rfl ?_ ?_
          · -- 1
            refine JO.val rfl rfl rfl (.none rfl) (Ev.lB Tryd.underlying33 Tryd.sizeOf33) ?_
            exact JA.wk (hmid37 (bu, 0) trivial)
          refine JAll.cons rfl ?_ JAll.nil
          refine JO.new rfl rfl rfl (.none rfl) (En.allocZ (cs := (fl [zeroD, zeroD, zeroD]).toArray) Tryd.zeroValue123 rfl) (fun b24 hb24 => ?_)
          obtain ⟨bv, rfl⟩ : ∃ b, b = b24 := ⟨_, rfl⟩
          exact JA.wk (hmid41 (bu, bv) trivial)
        refine JA.mid (X := Nat × Nat) (fun ⟨bu, bv⟩ => True) (fun ⟨bu, bv⟩ => [(24, .pointer (some ⟨bv, 0, none⟩)), (90, .agg (arr8 (ledC (m - bel n) (n - bel n) false x q).2.1)), (89, .agg (arr8 y.1)), (11, .pointer (some ⟨b11, 0, none⟩)), (12, .pointer (some ⟨b12, 0, none⟩)), (15, .pointer (some ⟨b15, 0, none⟩)), (21, .pointer (some ⟨b21, 0, none⟩)), (22, .pointer (some ⟨b22, 0, none⟩)), (20, Row.v (stepsN (m - bel n) (n - bel n) false x q).length r1)]) (fun ⟨bu, bv⟩ => ([(bv, Obj.cells (fl [zeroD, zeroD, zeroD]).toArray 123 (0, 0)), (b22, Obj.cells (arr8 (ledC (m - bel n) (n - bel n) false x q).2.1) 33 (0, 0)), (b21, Obj.cells (arr8 (ledC (m - bel n) (n - bel n) false x q).1.1) 33 (0, 0)), (b15, Obj.cells (arr8 y.1) 33 (0, 0)), (b12, Obj.cells (arr8 (List.replicate 32 0)) 33 (0, 0)), (b11, Obj.cells (arr8 (List.replicate 32 0)) 33 (0, 0))] ++ Row.b 123 r1)) 7 #[false, false, false, true, true, false, false, true, false, false] ?_ (fun hmid60 => ?_)
        · -- state [3, 4, 7]
          rintro ⟨bu, bv⟩ _
          refine JA.branch [0, 1, 6] (by kernel_rfl) rfl ?_
          refine JAll.cons rfl ?_ ?_
          · -- 0
            refine JO.val rfl rfl rfl (.none rfl) (Ev.lB Tryd.underlying33 Tryd.sizeOf33) ?_
            exact JA.wk (hmid34 (0, bv) trivial)
          refine JAll.cons rfl ?_ ?_
          · -- 1
            refine JO.val rfl rfl rfl (.none rfl) (Ev.lB Tryd.underlying33 Tryd.sizeOf33) ?_
            exact JA.wk (hmid38 (0, bv) trivial)
          refine JAll.cons rfl ?_ JAll.nil
          refine JO.new rfl rfl rfl (.none rfl) (En.allocZ (cs := (fl [zeroD, zeroD, zeroD]).toArray) Tryd.zeroValue123 rfl) (fun b23 hb23 => ?_)
          obtain ⟨bu, rfl⟩ : ∃ b, b = b23 := ⟨_, rfl⟩
          exact JA.wk (hmid41 (bu, bv) trivial)
        refine JA.mid (X := Nat × Nat) (fun ⟨bu, bv⟩ => True) (fun ⟨bu, bv⟩ => [(24, .pointer (some ⟨bv, 0, none⟩)), (23, .pointer (some ⟨bu, 0, none⟩)), (89, .agg (arr8 y.1)), (11, .pointer (some ⟨b11, 0, none⟩)), (12, .pointer (some ⟨b12, 0, none⟩)), (15, .pointer (some ⟨b15, 0, none⟩)), (21, .pointer (some ⟨b21, 0, none⟩)), (22, .pointer (some ⟨b22, 0, none⟩)), (20, Row.v (stepsN (m - bel n) (n - bel n) false x q).length r1)]) (fun ⟨bu, bv⟩ => ([(bv, Obj.cells (fl [zeroD, zeroD, zeroD]).toArray 123 (0, 0)), (bu, Obj.cells (fl [zeroD, zeroD, zeroD]).toArray 123 (0, 0)), (b22, Obj.cells (arr8 (ledC (m - bel n) (n - bel n) false x q).2.1) 33 (0, 0)), (b21, Obj.cells (arr8 (ledC (m - bel n) (n - bel n) false x q).1.1) 33 (0, 0)), (b15, Obj.cells (arr8 y.1) 33 (0, 0)), (b12, Obj.cells (arr8 (List.replicate 32 0)) 33 (0, 0)), (b11, Obj.cells (arr8 (List.replicate 32 0)) 33 (0, 0))] ++ Row.b 123 r1)) 7 #[false, false, false, true, false, false, true, true, false, false] ?_ (fun hmid61 => ?_)
        · -- state [3, 6, 7]
          rintro ⟨bu, bv⟩ _
          refine JA.branch [0, 1, 4] (by kernel_rfl) rfl ?_
          refine JAll.cons rfl ?_ ?_
          · -- 0
            refine JO.val rfl rfl rfl (.none rfl) (Ev.lB Tryd.underlying33 Tryd.sizeOf33) ?_
            exact JA.wk (hmid35 (bu, bv) trivial)
          refine JAll.cons rfl ?_ ?_
          · -- 1
            refine JO.val rfl rfl rfl (.none rfl) (Ev.lB Tryd.underlying33 Tryd.sizeOf33) ?_
            exact JA.wk (hmid39 (bu, bv) trivial)
          refine JAll.cons rfl ?_ JAll.nil
          refine JO.val rfl rfl rfl (.none rfl) (Ev.lB Tryd.underlying33 Tryd.sizeOf33) ?_
          exact JA.wk (hmid41 (bu, bv) trivial)
        refine JA.mid (X := Nat × Nat) (fun ⟨bu, bv⟩ => True) (fun ⟨bu, bv⟩ => [(24, .pointer (some ⟨bv, 0, none⟩)), (23, .pointer (some ⟨bu, 0, none⟩)), (90, .agg (arr8 (ledC (m - bel n) (n - bel n) false x q).2.1)), (11, .pointer (some ⟨b11, 0, none⟩)), (12, .pointer (some ⟨b12, 0, none⟩)), (15, .pointer (some ⟨b15, 0, none⟩)), (21, .pointer (some ⟨b21, 0, none⟩)), (22, .pointer (some ⟨b22, 0, none⟩)), (20, Row.v (stepsN (m - bel n) (n - bel n) false x q).length r1)]) (fun ⟨bu, bv⟩ => ([(bv, Obj.cells (fl [zeroD, zeroD, zeroD]).toArray 123 (0, 0)), (bu, Obj.cells (fl [zeroD, zeroD, zeroD]).toArray 123 (0, 0)), (b22, Obj.cells (arr8 (ledC (m - bel n) (n - bel n) false x q).2.1) 33 (0, 0)), (b21, Obj.cells (arr8 (ledC (m - bel n) (n - bel n) false x q).1.1) 33 (0, 0)), (b15, Obj.cells (arr8 y.1) 33 (0, 0)), (b12, Obj.cells (arr8 (List.replicate 32 0)) 33 (0, 0)), (b11, Obj.cells (arr8 (List.replicate 32 0)) 33 (0, 0))] ++ Row.b 123 r1)) 7 #[false, false, false, false, true, false, true, true, false, false] ?_ (fun hmid62 => ?_)
        · -- state [4, 6, 7]
          rintro ⟨bu, bv⟩ _
          refine JA.branch [0, 1, 3] (by kernel_rfl) rfl ?_
          refine JAll.cons rfl ?_ ?_
          · -- 0
            refine JO.val rfl rfl rfl (.none rfl) (Ev.lB Tryd.underlying33 Tryd.sizeOf33) ?_
            exact JA.wk (hmid36 (bu, bv) trivial)
          refine JAll.cons rfl ?_ ?_
          · -- 1
            refine JO.val rfl rfl rfl (.none rfl) (Ev.lB Tryd.underlying33 Tryd.sizeOf33) ?_
            exact JA.wk (hmid40 (bu, bv) trivial)
          refine JAll.cons rfl ?_ JAll.nil
          refine JO.val rfl rfl rfl (.none rfl) (Ev.lB Tryd.underlying33 Tryd.sizeOf33) ?_
          exact JA.wk (hmid41 (bu, bv) trivial)
        refine JA.mid (X := Nat × Nat) (fun ⟨bu, bv⟩ => True) (fun ⟨bu, bv⟩ => [(87, .agg (arr8 (ledC (m - bel n) (n - bel n) false x q).1.1)), (86, .agg (arr8 y.1)), (11, .pointer (some ⟨b11, 0, none⟩)), (12, .pointer (some ⟨b12, 0, none⟩)), (15, .pointer (some ⟨b15, 0, none⟩)), (21, .pointer (some ⟨b21, 0, none⟩)), (22, .pointer (some ⟨b22, 0, none⟩)), (20, Row.v (stepsN (m - bel n) (n - bel n) false x q).length r1)]) (fun ⟨bu, bv⟩ => ([(b22, Obj.cells (arr8 (ledC (m - bel n) (n - bel n) false x q).2.1) 33 (0, 0)), (b21, Obj.cells (arr8 (ledC (m - bel n) (n - bel n) false x q).1.1) 33 (0, 0)), (b15, Obj.cells (arr8 y.1) 33 (0, 0)), (b12, Obj.cells (arr8 (List.replicate 32 0)) 33 (0, 0)), (b11, Obj.cells (arr8 (List.replicate 32 0)) 33 (0, 0))] ++ Row.b 123 r1)) 8 #[true, true, false, false, false, false, false, false, false, false] ?_ (fun hmid63 => ?_)
        · -- state [0, 1]
          rintro ⟨bu, bv⟩ _
          refine JA.branch [2, 3, 4, 6, 7] (by kernel_rfl) rfl ?_
          refine JAll.cons rfl ?_ ?_
          · -- 2
            refine JO.callV rfl (.none rfl) rfl Tryd.call80 (fun w1 hw1 => fpair_any y (ledC (m - bel n) (n - bel n) false x q).1 w1 (hk.old hw1) (hf.old hw1)) ?_
            exact JA.wk (hmid42 (0, 0) trivial)
          refine JAll.cons rfl ?_ ?_
          · -- 3
            refine JO.val rfl rfl rfl (.none rfl) (Ev.lB Tryd.underlying33 Tryd.sizeOf33) ?_
            exact JA.wk (hmid43 (0, 0) trivial)
          refine JAll.cons rfl ?_ ?_
          · -- 4
            refine JO.val rfl rfl rfl (.none rfl) (Ev.lB Tryd.underlying33 Tryd.sizeOf33) ?_
            exact JA.wk (hmid44 (0, 0) trivial)
          refine JAll.cons rfl ?_ ?_
          · -- 6
            refine JO.new rfl rfl rfl (.none rfl) (En.allocZ (cs := (fl [zeroD, zeroD, zeroD]).toArray) Tryd.zeroValue123 rfl) (fun b23 hb23 => ?_)
            obtain ⟨bu, rfl⟩ : ∃ b, b = b23 := ⟨_, rfl⟩
            exact JA.wk (hmid45 (bu, 0) trivial)
          refine JAll.cons rfl ?_ JAll.nil
          refine JO.new rfl rfl rfl (.none rfl) (En.allocZ (cs := (fl [zeroD, zeroD, zeroD]).toArray) Tryd.zeroValue123 rfl) (fun b24 hb24 => ?_)
          obtain ⟨bv, rfl⟩ : ∃ b, b = b24 := ⟨_, rfl⟩
          exact JA.wk (hmid46 (0, bv) trivial)
        refine JA.mid (X := Nat × Nat) (fun ⟨bu, bv⟩ => True) (fun ⟨bu, bv⟩ => [(89, .agg (arr8 y.1)), (86, .agg (arr8 y.1)), (11, .pointer (some ⟨b11, 0, none⟩)), (12, .pointer (some ⟨b12, 0, none⟩)), (15, .pointer (some ⟨b15, 0, none⟩)), (21, .pointer (some ⟨b21, 0, none⟩)), (22, .pointer (some ⟨b22, 0, none⟩)), (20, Row.v (stepsN (m - bel n) (n - bel n) false x q).length r1)]) (fun ⟨bu, bv⟩ => ([(b22, Obj.cells (arr8 (ledC (m - bel n) (n - bel n) false x q).2.1) 33 (0, 0)), (b21, Obj.cells (arr8 (ledC (m - bel n) (n - bel n) false x q).1.1) 33 (0, 0)), (b15, Obj.cells (arr8 y.1) 33 (0, 0)), (b12, Obj.cells (arr8 (List.replicate 32 0)) 33 (0, 0)), (b11, Obj.cells (arr8 (List.replicate 32 0)) 33 (0, 0))] ++ Row.b 123 r1)) 8 #[true, false, false, true, false, false, false, false, false, false] ?_ (fun hmid64 => ?_)
        · -- state [0, 3]
          rintro ⟨bu, bv⟩ _
          refine JA.branch [1, 4, 6, 7] (by kernel_rfl) rfl ?_
          refine JAll.cons rfl ?_ ?_
          · -- 1
            refine JO.val rfl rfl rfl (.none rfl) (Ev.lB Tryd.underlying33 Tryd.sizeOf33) ?_
            exact JA.wk (hmid43 (0, 0) trivial)
          refine JAll.cons rfl ?_ ?_
          · -- 4
            refine JO.val rfl rfl rfl (.none rfl) (Ev.lB Tryd.underlying33 Tryd.sizeOf33) ?_
            exact JA.wk (hmid47 (0, 0) trivial)
          refine JAll.cons rfl ?_ ?_
          · -- 6
            refine JO.new rfl rfl rfl (.none rfl) (En.allocZ (cs := (fl [zeroD, zeroD, zeroD]).toArray) Tryd.zeroValue123 rfl) (fun b23 hb23 => ?_)
            obtain ⟨bu, rfl⟩ : ∃ b, b = b23 := ⟨_, rfl⟩
            exact JA.wk (hmid48 (bu, 0) trivial)
          refine JAll.cons rfl ?_ JAll.nil
          refine JO.new rfl rfl rfl (.none rfl) (En.allocZ (cs := (fl [zeroD, zeroD, zeroD]).toArray) Tryd.zeroValue123 rfl) (fun b24 hb24 => ?_)
          obtain ⟨bv, rfl⟩ : ∃ b, b = b24 := ⟨_, rfl⟩
          exact JA.wk (hmid49 (0, bv) trivial)
        refine JA.mid (X := Nat × Nat) (fun ⟨bu, bv⟩ => True) (fun ⟨bu, bv⟩ => [(90, .agg (arr8 (ledC (m - bel n) (n - bel n) false x q).2.1)), (86, .agg (arr8 y.1)), (11, .pointer (some ⟨b11, 0, none⟩)), (12, .pointer (some ⟨b12, 0, none⟩)), (15, .pointer (some ⟨b15, 0, none⟩)), (21, .pointer (some ⟨b21, 0, none⟩)), (22, .pointer (some ⟨b22, 0, none⟩)), (20, Row.v (stepsN (m - bel n) (n - bel n) false x q).length r1)]) (fun ⟨bu, bv⟩ => ([(b22, Obj.cells (arr8 (ledC (m - bel n) (n - bel n) false x q).2.1) 33 (0, 0)), (b21, Obj.cells (arr8 (ledC (m - bel n) (n - bel n) false x q).1.1) 33 (0, 0)), (b15, Obj.cells (arr8 y.1) 33 (0, 0)), (b12, Obj.cells (arr8 (List.replicate 32 0)) 33 (0, 0)), (b11, Obj.cells (arr8 (List.replicate 32 0)) 33 (0, 0))] ++ Row.b 123 r1)) 8 #[true, false, false, false, true, false, false, false, false, false] ?_ (fun hmid65 => ?_)
        · -- state [0, 4]
          rintro ⟨bu, bv⟩ _
          refine JA.branch [1, 3, 6, 7] (by kernel_rfl) rfl ?_
          refine JAll.cons rfl ?_ ?_
          · -- 1
            refine JO.val rfl rfl rfl (.none rfl) (Ev.lB Tryd.underlying33 Tryd.sizeOf33) ?_
            exact JA.wk (hmid44 (0, 0) trivial)
          refine JAll.cons rfl ?_ ?_
          · -- 3
            refine JO.val rfl rfl rfl (.none rfl) (Ev.lB Tryd.underlying33 Tryd.sizeOf33) ?_
            exact JA.wk (hmid47 (0, 0) trivial)
          refine JAll.cons rfl ?_ ?_
          · -- 6
            refine JO.new rfl rfl rfl (.none rfl) (En.allocZ (cs := (fl [zeroD, zeroD, zeroD]).toArray) Tryd.zeroValue123 rfl) (fun b23 hb23 => ?_)
            obtain ⟨bu, rfl⟩ : ∃ b, b = b23 := ⟨_, rfl⟩
            exact JA.wk (hmid50 (bu, 0) trivial)
          refine JAll.cons rfl ?_ JAll.nil
          refine JO.new rfl rfl rfl (.none rfl) (En.allocZ (cs := (fl [zeroD, zeroD, zeroD]).toArray) Tryd.zeroValue123 rfl) (fun b24 hb24 => ?_)
          obtain ⟨bv, rfl⟩ : ∃ b, b = b24 := ⟨_, rfl⟩
          exact JA.wk (hmid51 (0, bv) trivial)
        refine JA.mid (X := Nat × Nat) (fun ⟨bu, bv⟩ => True) (fun ⟨bu, bv⟩ => [(23, .pointer (some ⟨bu, 0, none⟩)), (86, .agg (arr8 y.1)), (11, .pointer (some ⟨b11, 0, none⟩)), (12, .pointer (some ⟨b12, 0, none⟩)), (15, .pointer (some ⟨b15, 0, none⟩)), (21, .pointer (some ⟨b21, 0, none⟩)), (22, .pointer (some ⟨b22, 0, none⟩)), (20, Row.v (stepsN (m - bel n) (n - bel n) false x q).length r1)]) (fun ⟨bu, bv⟩ => ([(bu, Obj.cells (fl [zeroD, zeroD, zeroD]).toArray 123 (0, 0)), (b22, Obj.cells (arr8 (ledC (m - bel n) (n - bel n) false x q).2.1) 33 (0, 0)), (b21, Obj.cells (arr8 (ledC (m - bel n) (n - bel n) false x q).1.1) 33 (0, 0)), (b15, Obj.cells (arr8 y.1) 33 (0, 0)), (b12, Obj.cells (arr8 (List.replicate 32 0)) 33 (0, 0)), (b11, Obj.cells (arr8 (List.replicate 32 0)) 33 (0, 0))] ++ Row.b 123 r1)) 8 #[true, false, false, false, false, false, true, false, false, false] ?_ (fun hmid66 => ?_)
        · -- state [0, 6]
          rintro ⟨bu, bv⟩ _
          refine JA.branch [1, 3, 4, 7] (by kernel_rfl) rfl ?_
          refine JAll.cons rfl ?_ ?_
          · -- 1
            refine JO.val rfl rfl rfl (.none rfl) (Ev.lB Tryd.underlying33 Tryd.sizeOf33) ?_
            exact JA.wk (hmid45 (bu, 0) trivial)
          refine JAll.cons rfl ?_ ?_
          · -- 3
            refine JO.val rfl rfl rfl (.none rfl) (Ev.lB Tryd.underlying33 Tryd.sizeOf33) ?_
            exact JA.wk (hmid48 (bu, 0) trivial)
          refine JAll.cons rfl ?_ ?_
          · -- 4
            refine JO.val rfl rfl rfl (.none rfl) (Ev.lB Tryd.underlying33 Tryd.sizeOf33) ?_
            exact JA.wk (hmid50 (bu, 0) trivial)
          refine JAll.cons rfl ?_ JAll.nil
          refine JO.new rfl rfl rfl (.none rfl) (En.allocZ (cs := (fl [zeroD, zeroD, zeroD]).toArray) Tryd.zeroValue123 rfl) (fun b24 hb24 => ?_)
          obtain ⟨bv, rfl⟩ : ∃ b, b = b24 := ⟨_, rfl⟩
          exact JA.wk (hmid52 (bu, bv) trivial)
        refine JA.mid (X := Nat × Nat) (fun ⟨bu, bv⟩ => True) (fun ⟨bu, bv⟩ => [(24, .pointer (some ⟨bv, 0, none⟩)), (86, .agg (arr8 y.1)), (11, .pointer (some ⟨b11, 0, none⟩)), (12, .pointer (some ⟨b12, 0, none⟩)), (15, .pointer (some ⟨b15, 0, none⟩)), (21, .pointer (some ⟨b21, 0, none⟩)), (22, .pointer (some ⟨b22, 0, none⟩)), (20, Row.v (stepsN (m - bel n) (n - bel n) false x q).length r1)]) (fun ⟨bu, bv⟩ => ([(bv, Obj.cells (fl [zeroD, zeroD, zeroD]).toArray 123 (0, 0)), (b22, Obj.cells (arr8 (ledC (m - bel n) (n - bel n) false x q).2.1) 33 (0, 0)), (b21, Obj.cells (arr8 (ledC (m - bel n) (n - bel n) false x q).1.1) 33 (0, 0)), (b15, Obj.cells (arr8 y.1) 33 (0, 0)), (b12, Obj.cells (arr8 (List.replicate 32 0)) 33 (0, 0)), (b11, Obj.cells (arr8 (List.replicate 32 0)) 33 (0, 0))] ++ Row.b 123 r1)) 8 #[true, false, false, false, false, false, false, true, false, false] ?_ (fun hmid67 => ?_)
        · -- state [0, 7]
          rintro ⟨bu, bv⟩ _
          refine JA.branch [1, 3, 4, 6] (by kernel_rfl) rfl ?_
          refine JAll.cons rfl ?_ ?_
          · -- 1
            refine JO.val rfl rfl rfl (.none rfl) (Ev.lB Tryd.underlying33 Tryd.sizeOf33) ?_
            exact JA.wk (hmid46 (0, bv) trivial)
          refine JAll.cons rfl ?_ ?_
          · -- 3
            refine JO.val rfl rfl rfl (.none rfl) (Ev.lB Tryd.underlying33 Tryd.sizeOf33) ?_
            exact JA.wk (hmid49 (0, bv) trivial)
          refine JAll.cons rfl ?_ ?_
          · -- 4
            refine JO.val rfl rfl rfl (.none rfl) (Ev.lB Tryd.underlying33 Tryd.sizeOf33) ?_
            exact JA.wk (hmid51 (0, bv) trivial)
          refine JAll.cons rfl ?_ JAll.nil
          refine JO.new rfl rfl rfl (.none rfl) (En.allocZ (cs := (fl [zeroD, zeroD, zeroD]).toArray) Tryd.zeroValue123 rfl) (fun b23 hb23 => ?_)
          obtain ⟨bu, rfl⟩ : ∃ b, b = b23 := ⟨_, rfl⟩
          exact JA.wk (hmid52 (bu, bv) trivial)
        refine JA.mid (X := Nat × Nat) (fun ⟨bu, bv⟩ => True) (fun ⟨bu, bv⟩ => [(89, .agg (arr8 y.1)), (87, .agg (arr8 (ledC (m - bel n) (n - bel n) false x q).1.1)), (11, .pointer (some ⟨b11, 0, none⟩)), (12, .pointer (some ⟨b12, 0, none⟩)), (15, .pointer (some ⟨b15, 0, none⟩)), (21, .pointer (some ⟨b21, 0, none⟩)), (22, .pointer (some ⟨b22, 0, none⟩)), (20, Row.v (stepsN (m - bel n) (n - bel n) false x q).length r1)]) (fun ⟨bu, bv⟩ => ([(b22, Obj.cells (arr8 (ledC (m - bel n) (n - bel n) false x q).2.1) 33 (0, 0)), (b21, Obj.cells (arr8 (ledC (m - bel n) (n - bel n) false x q).1.1) 33 (0, 0)), (b15, Obj.cells (arr8 y.1) 33 (0, 0)), (b12, Obj.cells (arr8 (List.replicate 32 0)) 33 (0, 0)), (b11, Obj.cells (arr8 (List.replicate 32 0)) 33 (0, 0))] ++ Row.b 123 r1)) 8 #[false, true, false, true, false, false, false, false, false, false] ?_ (fun hmid68 => ?_)
        · -- state [1, 3]
          rintro ⟨bu, bv⟩ _
          refine JA.branch [0, 4, 6, 7] (by kernel_rfl) rfl ?_
          refine JAll.cons rfl ?_ ?_
          · -- 0
            refine JO.val rfl rfl rfl (.none rfl) (Ev.lB Tryd.underlying33 Tryd.sizeOf33) ?_
            exact JA.wk (hmid43 (0, 0) trivial)
          refine JAll.cons rfl ?_ ?_
          · -- 4
            refine JO.val rfl rfl rfl (.none rfl) (Ev.lB Tryd.underlying33 Tryd.sizeOf33) ?_
            exact JA.wk (hmid53 (0, 0) trivial)
          refine JAll.cons rfl ?_ ?_
          · -- 6
            refine JO.new rfl rfl rfl (.none rfl) (En.allocZ (cs := (fl [zeroD, zeroD, zeroD]).toArray) Tryd.zeroValue123 rfl) (fun b23 hb23 => ?_)
            obtain ⟨bu, rfl⟩ : ∃ b, b = b23 := ⟨_, rfl⟩
            exact JA.wk (hmid54 (bu, 0) trivial)
          refine JAll.cons rfl ?_ JAll.nil
          refine JO.new rfl rfl rfl (.none rfl) (En.allocZ (cs := (fl [zeroD, zeroD, zeroD]).toArray) Tryd.zeroValue123 rfl) (fun b24 hb24 => ?_)
          obtain ⟨bv, rfl⟩ : ∃ b, b = b24 := ⟨_, rfl⟩
          exact JA.wk (hmid55 (0, bv) trivial)
        refine JA.mid (X := Nat × Nat) (fun ⟨bu, bv⟩ => True) (fun ⟨bu, bv⟩ => [(90, .agg (arr8 (ledC (m - bel n) (n - bel n) false x q).2.1)), (87, .agg (arr8 (ledC (m - bel n) (n - bel n) false x q).1.1)), (11, .pointer (some ⟨b11, 0, none⟩)), (12, .pointer (some ⟨b12, 0, none⟩)), (15, .pointer (some ⟨b15, 0, none⟩)), (21, .pointer (some ⟨b21, 0, none⟩)), (22, .pointer (some ⟨b22, 0, none⟩)), (20, Row.v (stepsN (m - bel n) (n - bel n) false x q).length r1)]) (fun ⟨bu, bv⟩ => ([(b22, Obj.cells (arr8 (ledC (m - bel n) (n - bel n) false x q).2.1) 33 (0, 0)), (b21, Obj.cells (arr8 (ledC (m - bel n) (n - bel n) false x q).1.1) 33 (0, 0)), (b15, Obj.cells (arr8 y.1) 33 (0, 0)), (b12, Obj.cells (arr8 (List.replicate 32 0)) 33 (0, 0)), (b11, Obj.cells (arr8 (List.replicate 32 0)) 33 (0, 0))] ++ Row.b 123 r1)) 8 #[false, true, false, false, true, false, false, false, false, false] ?_ (fun hmid69 => ?_)
        · -- state [1, 4]
          rintro ⟨bu, bv⟩ _
          refine JA.branch [0, 3, 6, 7] (by kernel_rfl) rfl ?_
          refine JAll.cons rfl ?_ ?_
          · -- 0
            refine JO.val rfl rfl rfl (.none rfl) (Ev.lB Tryd.underlying33 Tryd.sizeOf33) ?_
            exact JA.wk (hmid44 (0, 0) trivial)
          refine JAll.cons rfl ?_ ?_
          · -- 3
            refine JO.val rfl rfl rfl (.none rfl) (Ev.lB Tryd.underlying33 Tryd.sizeOf33) ?_
            exact JA.wk (hmid53 (0, 0) trivial)
          refine JAll.cons rfl ?_ ?_
          · -- 6
            refine JO.new rfl rfl rfl (.none rfl) (En.allocZ (cs := (fl [zeroD, zeroD, zeroD]).toArray) Tryd.zeroValue123 rfl) (fun b23 hb23 => ?_)
            obtain ⟨bu, rfl⟩ : ∃ b, b = b23 := ⟨_, rfl⟩
            exact JA.wk (hmid56 (bu, 0) trivial)
          refine JAll.cons rfl ?_ JAll.nil
          refine JO.new rfl rfl rfl (.none rfl) (En.allocZ (cs := (fl [zeroD, zeroD, zeroD]).toArray) Tryd.zeroValue123 rfl) (fun b24 hb24 => ?_)
          obtain ⟨bv, rfl⟩ : ∃ b, b = b24 := ⟨_, rfl⟩
          exact JA.wk (hmid57 (0, bv) trivial)
        refine JA.mid (X := Nat × Nat) (fun ⟨bu, bv⟩ => True) (fun ⟨bu, bv⟩ => [(23, .pointer (some ⟨bu, 0, none⟩)), (87, .agg (arr8 (ledC (m - bel n) (n - bel n) false x q).1.1)), (11, .pointer (some ⟨b11, 0, none⟩)), (12, .pointer (some ⟨b12, 0, none⟩)), (15, .pointer (some ⟨b15, 0, none⟩)), (21, .pointer (some ⟨b21, 0, none⟩)), (22, .pointer (some ⟨b22, 0, none⟩)), (20, Row.v (stepsN (m - bel n) (n - bel n) false x q).length r1)]) (fun ⟨bu, bv⟩ => ([(bu, Obj.cells (fl [zeroD, zeroD, zeroD]).toArray 123 (0, 0)), (b22, Obj.cells (arr8 (ledC (m - bel n) (n - bel n) false x q).2.1) 33 (0, 0)), (b21, Obj.cells (arr8 (ledC (m - bel n) (n - bel n) false x q).1.1) 33 (0, 0)), (b15, Obj.cells (arr8 y.1) 33 (0, 0)), (b12, Obj.cells (arr8 (List.replicate 32 0)) 33 (0, 0)), (b11, Obj.cells (arr8 (List.replicate 32 0)) 33 (0, 0))] ++ Row.b 123 r1)) 8 #[false, true, false, false, false, false, true, false, false, false] ?_ (fun hmid70 => ?_)
        · -- state [1, 6]
          rintro ⟨bu, bv⟩ _
          refine JA.branch [0, 3, 4, 7] (by kernel_rfl) rfl ?_
          refine JAll.cons rfl ?_ ?_
          · -- 0
            refine JO.val rfl rfl rfl (.none rfl) (Ev.lB Tryd.underlying33 Tryd.sizeOf33) ?_
            exact JA.wk (hmid45 (bu, 0) trivial)
          refine JAll.cons rfl ?_ ?_
          · -- 3
            refine JO.val rfl rfl rfl (.none rfl) (Ev.lB Tryd.underlying33 Tryd.sizeOf33) ?_
            exact JA.wk (hmid54 (bu, 0) trivial)
          refine JAll.cons rfl ?_ ?_
          · -- 4
            refine JO.val rfl rfl rfl (.none rfl) (Ev.lB Tryd.underlying33 Tryd.sizeOf33) ?_
            exact JA.wk (hmid56 (bu, 0) trivial)
          refine JAll.cons rfl ?_ JAll.nil
          refine JO.new rfl rfl rfl (.none rfl) (En.allocZ (cs := (fl [zeroD, zeroD, zeroD]).toArray) Tryd.zeroValue123 rfl) (fun b24 hb24 => ?_)
          obtain ⟨bv, rfl⟩ : ∃ b, b = b24 := ⟨_, rfl⟩
          exact JA.wk (hmid58 (bu, bv) trivial)
        refine JA.mid (X := Nat × Nat) (fun ⟨bu, bv⟩ => True) (fun ⟨bu, bv⟩ => [(24, .pointer (some ⟨bv, 0, none⟩)), (87, .agg (arr8 (ledC (m - bel n) (n - bel n) false x q).1.1)), (11, .pointer (some ⟨b11, 0, none⟩)), (12, .pointer (some ⟨b12, 0, none⟩)), (15, .pointer (some ⟨b15, 0, none⟩)), (21, .pointer (some ⟨b21, 0, none⟩)), (22, .pointer (some ⟨b22, 0, none⟩)), (20, Row.v (stepsN (m - bel n) (n - bel n) false x q).length r1)]) (fun ⟨bu, bv⟩ => ([(bv, Obj.cells (fl [zeroD, zeroD, zeroD]).toArray 123 (0, 0)), (b22, Obj.cells (arr8 (ledC (m - bel n) (n - bel n) false x q).2.1) 33 (0, 0)), (b21, Obj.cells (arr8 (ledC (m - bel n) (n - bel n) false x q).1.1) 33 (0, 0)), (b15, Obj.cells (arr8 y.1) 33 (0, 0)), (b12, Obj.cells (arr8 (List.replicate 32 0)) 33 (0, 0)), (b11, Obj.cells (arr8 (List.replicate 32 0)) 33 (0, 0))] ++ Row.b 123 r1)) 8 #[false, true, false, false, false, false, false, true, false, false] ?_ (fun hmid71 => ?_)
        · -- state [1, 7]
          rintro ⟨bu, bv⟩ _
          refine JA.branch [0, 3, 4, 6] (by kernel_rfl) rfl ?_
          refine JAll.cons rfl ?_ ?_
          · -- 0
            refine JO.val rfl rfl rfl (.none rfl) (Ev.lB Tryd.underlying33 Tryd.sizeOf33) ?_
            exact JA.wk (hmid46 (0, bv) trivial)
          refine JAll.cons rfl ?_ ?_
          · -- 3
            refine JO.val rfl rfl rfl (.none rfl) (Ev.lB Tryd.underlying33 Tryd.sizeOf33) ?_
            exact JA.wk (hmid55 (0, bv) trivial)
          refine JAll.cons rfl ?_ ?_
          · -- 4
            refine JO.val rfl rfl rfl (.none rfl) (Ev.lB Tryd.underlying33 Tryd.sizeOf33) ?_
            exact JA.wk (hmid57 (0, bv) trivial)
          refine JAll.cons rfl ?_ JAll.nil
          refine JO.new rfl rfl rfl (.none rfl) (En.allocZ (cs := (fl [zeroD, zeroD, zeroD]).toArray) Tryd.zeroValue123 rfl) (fun b23 hb23 => ?_)
          obtain ⟨bu, rfl⟩ : ∃ b, b = b23 := ⟨_, rfl⟩
          exact JA.wk (hmid58 (bu, bv) trivial)
        refine JA.mid (X := Nat × Nat) (fun ⟨bu, bv⟩ => True) (fun ⟨bu, bv⟩ => [(90, .agg (arr8 (ledC (m - bel n) (n - bel n) false x q).2.1)), (89, .agg (arr8 y.1)), (11, .pointer (some ⟨b11, 0, none⟩)), (12, .pointer (some ⟨b12, 0, none⟩)), (15, .pointer (some ⟨b15, 0, none⟩)), (21, .pointer (some ⟨b21, 0, none⟩)), (22, .pointer (some ⟨b22, 0, none⟩)), (20, Row.v (stepsN (m - bel n) (n - bel n) false x q).length r1)]) (fun ⟨bu, bv⟩ => ([(b22, Obj.cells (arr8 (ledC (m - bel n) (n - bel n) false x q).2.1) 33 (0, 0)), (b21, Obj.cells (arr8 (ledC (m - bel n) (n - bel n) false x q).1.1) 33 (0, 0)), (b15, Obj.cells (arr8 y.1) 33 (0, 0)), (b12, Obj.cells (arr8 (List.replicate 32 0)) 33 (0, 0)), (b11, Obj.cells (arr8 (List.replicate 32 0)) 33 (0, 0))] ++ Row.b 123 r1)) 8 #[false, false, false, true, true, false, false, false, false, false] ?_ (fun hmid72 => ?_)
        · -- state [3, 4]
          rintro ⟨bu, bv⟩ _
          refine JA.branch [0, 1, 6, 7] (by kernel_rfl) rfl ?_
          refine JAll.cons rfl ?_ ?_
          · -- 0
            refine JO.val rfl rfl rfl (.none rfl) (Ev.lB Tryd.underlying33 Tryd.sizeOf33) ?_
            exact JA.wk (hmid47 (0, 0) trivial)
          refine JAll.cons rfl ?_ ?_
          · -- 1
            refine JO.val rfl rfl rfl (.none rfl) (Ev.lB Tryd.underlying33 Tryd.sizeOf33) ?_
            exact JA.wk (hmid53 (0, 0) trivial)
          refine JAll.cons rfl ?_ ?_
          · -- 6
            refine JO.new rfl rfl rfl (.none rfl) (En.allocZ (cs := (fl [zeroD, zeroD, zeroD]).toArray) Tryd.zeroValue123 rfl) (fun b23 hb23 => ?_)
            obtain ⟨bu, rfl⟩ : ∃ b, b = b23 := ⟨_, rfl⟩
            exact JA.wk (hmid59 (bu, 0) trivial)
          refine JAll.cons rfl ?_ JAll.nil
          refine JO.new rfl rfl rfl (.none rfl) (En.allocZ (cs := (fl [zeroD, zeroD, zeroD]).toArray) Tryd.zeroValue123 rfl) (fun b24 hb24 => ?_)
          obtain ⟨bv, rfl⟩ : ∃ b, b = b24 := ⟨_, rfl⟩
          exact JA.wk (hmid60 (0, bv) trivial)
        refine JA.mid (X := Nat × Nat) (fun ⟨bu, bv⟩ => True) (fun ⟨bu, bv⟩ => [(23, .pointer (some ⟨bu, 0, none⟩)), (89, .agg (arr8 y.1)), (11, .pointer (some ⟨b11, 0, none⟩)), (12, .pointer (some ⟨b12, 0, none⟩)), (15, .pointer (some ⟨b15, 0, none⟩)), (21, .pointer (some ⟨b21, 0, none⟩)), (22, .pointer (some ⟨b22, 0, none⟩)), (20, Row.v (stepsN (m - bel n) (n - bel n) false x q).length r1)]) (fun ⟨bu, bv⟩ => ([(bu, Obj.cells (fl [zeroD, zeroD, zeroD]).toArray 123 (0, 0)), (b22, Obj.cells (arr8 (ledC (m - bel n) (n - bel n) false x q).2.1) 33 (0, 0)), (b21, Obj.cells (arr8 (ledC (m - bel n) (n - bel n) false x q).1.1) 33 (0, 0)), (b15, Obj.cells (arr8 y.1) 33 (0, 0)), (b12, Obj.cells (arr8 (List.replicate 32 0)) 33 (0, 0)), (b11, Obj.cells (arr8 (List.replicate 32 0)) 33 (0, 0))] ++ Row.b 123 r1)) 8 #[false, false, false, true, false, false, true, false, false, false] ?_ (fun hmid73 => ?_)
        · -- state [3, 6]
          rintro ⟨bu, bv⟩ _
          refine JA.branch [0, 1, 4, 7] (by kernel_rfl) rfl ?_
          refine JAll.cons rfl ?_ ?_
          · -- 0
            refine JO.val rfl rfl rfl (.none rfl) (Ev.lB Tryd.underlying33 Tryd.sizeOf33) ?_
            exact JA.wk (hmid48 (bu, 0) trivial)
          refine JAll.cons rfl ?_ ?_
          · -- 1
            refine JO.val rfl rfl rfl (.none rfl) (Ev.lB Tryd.underlying33 Tryd.sizeOf33) ?_
            exact JA.wk (hmid54 (bu, 0) trivial)
          refine JAll.cons rfl ?_ ?_
          · -- 4
            refine JO.val rfl rfl rfl (.none rfl) (Ev.lB Tryd.underlying33 Tryd.sizeOf33) ?_
            exact JA.wk (hmid59 (bu, 0) trivial)
          refine JAll.cons rfl ?_ JAll.nil
          refine JO.new rfl rfl rfl (.none rfl) (En.allocZ (cs := (fl [zeroD, zeroD, zeroD]).toArray) Tryd.zeroValue123 rfl) (fun b24 hb24 => ?_)
          obtain ⟨bv, rfl⟩ : ∃ b, b = b24 := ⟨_, rfl⟩
          exact JA.wk (hmid61 (bu, bv) trivial)
        refine JA.mid (X := Nat × Nat) (fun ⟨bu, bv⟩ => True) (fun ⟨bu, bv⟩ => [(24, .pointer (some ⟨bv, 0, none⟩)), (89, .agg (arr8 y.1)), (11, .pointer (some ⟨b11, 0, none⟩)), (12, .pointer (some ⟨b12, 0, none⟩)), (15, .pointer (some ⟨b15, 0, none⟩)), (21, .pointer (some ⟨b21, 0, none⟩)), (22, .pointer (some ⟨b22, 0, none⟩)), (20, Row.v (stepsN (m - bel n) (n - bel n) false x q).length r1)]) (fun ⟨bu, bv⟩ => ([(bv, Obj.cells (fl [zeroD, zeroD, zeroD]).toArray 123 (0, 0)), (b22, Obj.cells (arr8 (ledC (m - bel n) (n - bel n) false x q).2.1) 33 (0, 0)), (b21, Obj.cells (arr8 (ledC (m - bel n) (n - bel n) false x q).1.1) 33 (0, 0)), (b15, Obj.cells (arr8 y.1) 33 (0, 0)), (b12, Obj.cells (arr8 (List.replicate 32 0)) 33 (0, 0)), (b11, Obj.cells (arr8 (List.replicate 32 0)) 33 (0, 0))] ++ Row.b 123 r1)) 8 #[false, false, false, true, false, false, false, true, false, false] ?_ (fun hmid74 => ?_)
        · -- state [3, 7]
          rintro ⟨bu, bv⟩ _
          refine JA.branch [0, 1, 4, 6] (by kernel_rfl) rfl ?_
          refine JAll.cons rfl ?_ ?_
          · -- 0
            refine JO.val rfl rfl rfl (.none rfl) (Ev.lB Tryd.underlying33 Tryd.sizeOf33) ?_
            exact JA.wk (hmid49 (0, bv) trivial)
          refine JAll.cons rfl ?_ ?_
          · -- 1
            refine JO.val rfl rfl rfl (.none rfl) (Ev.lB Tryd.underlying33 Tryd.sizeOf33) ?_
            exact JA.wk (hmid55 (0, bv) trivial)
          refine JAll.cons rfl ?_ ?_
          · -- 4
            refine JO.val rfl rfl rfl (.none rfl) (Ev.lB Tryd.underlying33 Tryd.sizeOf33) ?_
            exact JA.wk (hmid60 (0, bv) trivial)
          refine JAll.cons rfl ?_ JAll.nil
          refine JO.new rfl rfl rfl (.none rfl) (En.allocZ (cs := (fl [zeroD, zeroD, zeroD]).toArray) Tryd.zeroValue123 rfl) (fun b23 hb23 => ?_)
          obtain ⟨bu, rfl⟩ : ∃ b, b = b23 := ⟨_, rfl⟩
          exact JA.wk (hmid61 (bu, bv) trivial)
        refine JA.mid (X := Nat × Nat) (fun ⟨bu, bv⟩ => True) (fun ⟨bu, bv⟩ => [(23, .pointer (some ⟨bu, 0, none⟩)), (90, .agg (arr8 (ledC (m - bel n) (n - bel n) false x q).2.1)), (11, .pointer (some ⟨b11, 0, none⟩)), (12, .pointer (some ⟨b12, 0, none⟩)), (15, .pointer (some ⟨b15, 0, none⟩)), (21, .pointer (some ⟨b21, 0, none⟩)), (22, .pointer (some ⟨b22, 0, none⟩)), (20, Row.v (stepsN (m - bel n) (n - bel n) false x q).length r1)]) (fun ⟨bu, bv⟩ => ([(bu, Obj.cells (fl [zeroD, zeroD, zeroD]).toArray 123 (0, 0)), (b22, Obj.cells (arr8 (ledC (m - bel n) (n - bel n) false x q).2.1) 33 (0, 0)), (b21, Obj.cells (arr8 (ledC (m - bel n) (n - bel n) false x q).1.1) 33 (0, 0)), (b15, Obj.cells (arr8 y.1) 33 (0, 0)), (b12, Obj.cells (arr8 (List.replicate 32 0)) 33 (0, 0)), (b11, Obj.cells (arr8 (List.replicate 32 0)) 33 (0, 0))] ++ Row.b 123 r1)) 8 #[false, false, false, false, true, false, true, false, false, false] ?_ (fun hmid75 => ?_)
        · -- state [4, 6]
          rintro ⟨bu, bv⟩ _
          refine JA.branch [0, 1, 3, 7] (by kernel_rfl) rfl ?_
          refine JAll.cons rfl ?_ ?_
          · -- 0
            refine JO.val rfl rfl rfl (.none rfl) (Ev.lB Tryd.underlying33 Tryd.sizeOf33) ?_
            exact JA.wk (hmid50 (bu, 0) trivial)
          refine JAll.cons rfl ?_ ?_
          · -- 1
            refine JO.val rfl rfl rfl (.none rfl) (Ev.lB Tryd.underlying33 Tryd.sizeOf33) ?_
            exact JA.wk (hmid56 (bu, 0) trivial)
          refine JAll.cons rfl ?_ ?_
          · -- 3
            refine JO.val rfl rfl rfl (.none rfl) (Ev.lB Tryd.underlying33 Tryd.sizeOf33) ?_
            exact JA.wk (hmid59 (bu, 0) trivial)
          refine JAll.cons rfl ?_ JAll.nil
          refine JO.new rfl rfl rfl (.none rfl) (En.allocZ (cs := (fl [zeroD, zeroD, zeroD]).toArray) Tryd.zeroValue123 rfl) (fun b24 hb24 => ?_)
          obtain ⟨bv, rfl⟩ : ∃ b, b = b24 := ⟨_, rfl⟩
          exact JA.wk (hmid62 (bu, bv) trivial)
        refine JA.mid (X := Nat × Nat) (fun ⟨bu, bv⟩ => True) (fun ⟨bu, bv⟩ => [(24, .pointer (some ⟨bv, 0, none⟩)), (90, .agg (arr8 (ledC (m - bel n) (n - bel n) false x q).2.1)), (11, .pointer (some ⟨b11, 0, none⟩)), (12, .pointer (some ⟨b12, 0, none⟩)), (15, .pointer (some ⟨b15, 0, none⟩)), (21, .pointer (some ⟨b21, 0, none⟩)), (22, .pointer (some ⟨b22, 0, none⟩)), (20, Row.v (stepsN (m - bel n) (n - bel n) false x q).length r1)]) (fun ⟨bu, bv⟩ => ([(bv, Obj.cells (fl [zeroD, zeroD, zeroD]).toArray 123 (0, 0)), (b22, Obj.cells (arr8 (ledC (m - bel n) (n - bel n) false x q).2.1) 33 (0, 0)), (b21, Obj.cells (arr8 (ledC (m - bel n) (n - bel n) false x q).1.1) 33 (0, 0)), (b15, Obj.cells (arr8 y.1) 33 (0, 0)), (b12, Obj.cells (arr8 (List.replicate 32 0)) 33 (0, 0)), (b11, Obj.cells (arr8 (List.replicate 32 0)) 33 (0, 0))] ++ Row.b 123 r1)) 8 #[false, false, false, false, true, false, false, true, false, false] ?_ (fun hmid76 => ?_)
        · -- state [4, 7]
          rintro ⟨bu, bv⟩ _
          refine JA.branch [0, 1, 3, 6] (by kernel_rfl) rfl ?_
          refine JAll.cons rfl ?_ ?_
          · -- 0
            refine JO.val rfl rfl rfl (.none rfl) (Ev.lB Tryd.underlying33 Tryd.sizeOf33) ?_
            exact JA.wk (hmid51 (0, bv) trivial)
          refine JAll.cons rfl ?_ ?_
          · -- 1
            refine JO.val rfl rfl rfl (.none rfl) (Ev.lB Tryd.underlying33 Tryd.sizeOf33) ?_
            exact JA.wk (hmid57 (0, bv) trivial)
          refine JAll.cons rfl ?_ ?_
          · -- 3
            refine JO.val rfl rfl rfl (.none rfl) (Ev.lB Tryd.underlying33 Tryd.sizeOf33) ?_
            exact JA.wk (hmid60 (0, bv) trivial)
          refine JAll.cons rfl ?_ JAll.nil
          refine JO.new rfl rfl rfl (.none rfl) (En.allocZ (cs := (fl [zeroD, zeroD, zeroD]).toArray) Tryd.zeroValue123 rfl) (fun b23 hb23 => ?_)
          obtain ⟨bu, rfl⟩ : ∃ b, b = b23 := ⟨_, rfl⟩
          exact JA.wk (hmid62 (bu, bv) trivial)
        refine JA.mid (X := Nat × Nat) (fun ⟨bu, bv⟩ => True) (fun ⟨bu, bv⟩ => [(24, .pointer (some ⟨bv, 0, none⟩)), (23, .pointer (some ⟨bu, 0, none⟩)), (11, .pointer (some ⟨b11, 0, none⟩)), (12, .pointer (some ⟨b12, 0, none⟩)), (15, .pointer (some ⟨b15, 0, none⟩)), (21, .pointer (some ⟨b21, 0, none⟩)), (22, .pointer (some ⟨b22, 0, none⟩)), (20, Row.v (stepsN (m - bel n) (n - bel n) false x q).length r1)]) (fun ⟨bu, bv⟩ => ([(bv, Obj.cells (fl [zeroD, zeroD, zeroD]).toArray 123 (0, 0)), (bu, Obj.cells (fl [zeroD, zeroD, zeroD]).toArray 123 (0, 0)), (b22, Obj.cells (arr8 (ledC (m - bel n) (n - bel n) false x q).2.1) 33 (0, 0)), (b21, Obj.cells (arr8 (ledC (m - bel n) (n - bel n) false x q).1.1) 33 (0, 0)), (b15, Obj.cells (arr8 y.1) 33 (0, 0)), (b12, Obj.cells (arr8 (List.replicate 32 0)) 33 (0, 0)), (b11, Obj.cells (arr8 (List.replicate 32 0)) 33 (0, 0))] ++ Row.b 123 r1)) 8 #[false, false, false, false, false, false, true, true, false, false] ?_ (fun hmid77 => ?_)
        · -- state [6, 7]
          rintro ⟨bu, bv⟩ _
          refine JA.branch [0, 1, 3, 4] (by kernel_rfl) rfl ?_
          refine JAll.cons rfl ?_ ?_
          · -- 0
            refine JO.val rfl rfl rfl (.none rfl) (Ev.lB Tryd.underlying33 Tryd.sizeOf33) ?_
            exact JA.wk (hmid52 (bu, bv) trivial)
          refine JAll.cons rfl ?_ ?_
          · -- 1
            refine JO.val rfl rfl rfl (.none rfl) (Ev.lB Tryd.underlying33 Tryd.sizeOf33) ?_
            exact JA.wk (hmid58 (bu, bv) trivial)
          refine JAll.cons rfl ?_ ?_
          · -- 3
            refine JO.val rfl rfl rfl (.none rfl) (Ev.lB Tryd.underlying33 Tryd.sizeOf33) ?_
            exact JA.wk (hmid61 (bu, bv) trivial)
          refine JAll.cons rfl ?_ JAll.nil
          refine JO.val rfl rfl rfl (.none rfl) (Ev.lB Tryd.underlying33 Tryd.sizeOf33) ?_
          exact JA.wk (hmid62 (bu, bv) trivial)
        refine JA.mid (X := Nat × Nat) (fun ⟨bu, bv⟩ => True) (fun ⟨bu, bv⟩ => [(86, .agg (arr8 y.1)), (11, .pointer (some ⟨b11, 0, none⟩)), (12, .pointer (some ⟨b12, 0, none⟩)), (15, .pointer (some ⟨b15, 0, none⟩)), (21, .pointer (some ⟨b21, 0, none⟩)), (22, .pointer (some ⟨b22, 0, none⟩)), (20, Row.v (stepsN (m - bel n) (n - bel n) false x q).length r1)]) (fun ⟨bu, bv⟩ => ([(b22, Obj.cells (arr8 (ledC (m - bel n) (n - bel n) false x q).2.1) 33 (0, 0)), (b21, Obj.cells (arr8 (ledC (m - bel n) (n - bel n) false x q).1.1) 33 (0, 0)), (b15, Obj.cells (arr8 y.1) 33 (0, 0)), (b12, Obj.cells (arr8 (List.replicate 32 0)) 33 (0, 0)), (b11, Obj.cells (arr8 (List.replicate 32 0)) 33 (0, 0))] ++ Row.b 123 r1)) 9 #[true, false, false, false, false, false, false, false, false, false] ?_ (fun hmid78 => ?_)
        · -- state [0]
          rintro ⟨bu, bv⟩ _
          refine JA.branch [1, 3, 4, 6, 7] (by kernel_rfl) rfl ?_
          refine JAll.cons rfl ?_ ?_
          · -- 1
            refine JO.val rfl rfl rfl (.none rfl) (Ev.lB Tryd.underlying33 Tryd.sizeOf33) ?_
            exact JA.wk (hmid63 (0, 0) trivial)
          refine JAll.cons rfl ?_ ?_
          · -- 3
            refine JO.val rfl rfl rfl (.none rfl) (Ev.lB Tryd.underlying33 Tryd.sizeOf33) ?_
            exact JA.wk (hmid64 (0, 0) trivial)
          refine JAll.cons rfl ?_ ?_
          · -- 4
            refine JO.val rfl rfl rfl (.none rfl) (Ev.lB Tryd.underlying33 Tryd.sizeOf33) ?_
            exact JA.wk (hmid65 (0, 0) trivial)
          refine JAll.cons rfl ?_ ?_
          · -- 6
            refine JO.new rfl rfl rfl (.none rfl) (En.allocZ (cs := (fl [zeroD, zeroD, zeroD]).toArray) Tryd.zeroValue123 rfl) (fun b23 hb23 => ?_)
            obtain ⟨bu, rfl⟩ : ∃ b, b = b23 := ⟨_, rfl⟩
            exact JA.wk (hmid66 (bu, 0) trivial)
          refine JAll.cons rfl ?_ JAll.nil
          refine JO.new rfl rfl rfl (.none rfl) (En.allocZ (cs := (fl [zeroD, zeroD, zeroD]).toArray) Tryd.zeroValue123 rfl) (fun b24 hb24 => ?_)
          obtain ⟨bv, rfl⟩ : ∃ b, b = b24 := ⟨_, rfl⟩
          exact JA.wk (hmid67 (0, bv) trivial)
        refine JA.mid (X := Nat × Nat) (fun ⟨bu, bv⟩ => True) (fun ⟨bu, bv⟩ => [(87, .agg (arr8 (ledC (m - bel n) (n - bel n) false x q).1.1)), (11, .pointer (some ⟨b11, 0, none⟩)), (12, .pointer (some ⟨b12, 0, none⟩)), (15, .pointer (some ⟨b15, 0, none⟩)), (21, .pointer (some ⟨b21, 0, none⟩)), (22, .pointer (some ⟨b22, 0, none⟩)), (20, Row.v (stepsN (m - bel n) (n - bel n) false x q).length r1)]) (fun ⟨bu, bv⟩ => ([(b22, Obj.cells (arr8 (ledC (m - bel n) (n - bel n) false x q).2.1) 33 (0, 0)), (b21, Obj.cells (arr8 (ledC (m - bel n) (n - bel n) false x q).1.1) 33 (0, 0)), (b15, Obj.cells (arr8 y.1) 33 (0, 0)), (b12, Obj.cells (arr8 (List.replicate 32 0)) 33 (0, 0)), (b11, Obj.cells (arr8 (List.replicate 32 0)) 33 (0, 0))] ++ Row.b 123 r1)) 9 #[false, true, false, false, false, false, false, false, false, false] ?_ (fun hmid79 => ?_)
        · -- state [1]
          rintro ⟨bu, bv⟩ _
          refine JA.branch [0, 3, 4, 6, 7] (by kernel_rfl) rfl ?_
          refine JAll.cons rfl ?_ ?_
          · -- 0
            refine JO.val rfl rfl rfl (.none rfl) (Ev.lB Tryd.underlying33 Tryd.sizeOf33) ?_
            exact JA.wk (hmid63 (0, 0) trivial)
          refine JAll.cons rfl ?_ ?_
          · -- 3
            refine JO.val rfl rfl rfl (.none rfl) (Ev.lB Tryd.underlying33 Tryd.sizeOf33) ?_
            exact JA.wk (hmid68 (0, 0) trivial)
          refine JAll.cons rfl ?_ ?_
          · -- 4
            refine JO.val rfl rfl rfl (.none rfl) (Ev.lB Tryd.underlying33 Tryd.sizeOf33) ?_
            exact JA.wk (hmid69 (0, 0) trivial)
          refine JAll.cons rfl ?_ ?_
          · -- 6
            refine JO.new rfl rfl rfl (.none rfl) (En.allocZ (cs := (fl [zeroD, zeroD, zeroD]).toArray) Tryd.zeroValue123 rfl) (fun b23 hb23 => ?_)
            obtain ⟨bu, rfl⟩ : ∃ b, b = b23 := ⟨_, rfl⟩
            exact JA.wk (hmid70 (bu, 0) trivial)
          refine JAll.cons rfl ?_ JAll.nil
          refine JO.new rfl rfl rfl (.none rfl) (En.allocZ (cs := (fl [zeroD, zeroD, zeroD]).toArray) Tryd.zeroValue123 rfl) (fun b24 hb24 => ?_)
          obtain ⟨bv, rfl⟩ : ∃ b, b = b24 := ⟨_, rfl⟩
          exact JA.wk (hmid71 (0, bv) trivial)
        refine JA.mid (X := Nat × Nat) (fun ⟨bu, bv⟩ => True) (fun ⟨bu, bv⟩ => [(89, .agg (arr8 y.1)), (11, .pointer (some ⟨b11, 0, none⟩)), (12, .pointer (some ⟨b12, 0, none⟩)), (15, .pointer (some ⟨b15, 0, none⟩)), (21, .pointer (some ⟨b21, 0, none⟩)), (22, .pointer (some ⟨b22, 0, none⟩)), (20, Row.v (stepsN (m - bel n) (n - bel n) false x q).length r1)]) (fun ⟨bu, bv⟩ => ([(b22, Obj.cells (arr8 (ledC (m - bel n) (n - bel n) false x q).2.1) 33 (0, 0)), (b21, Obj.cells (arr8 (ledC (m - bel n) (n - bel n) false x q).1.1) 33 (0, 0)), (b15, Obj.cells (arr8 y.1) 33 (0, 0)), (b12, Obj.cells (arr8 (List.replicate 32 0)) 33 (0, 0)), (b11, Obj.cells (arr8 (List.replicate 32 0)) 33 (0, 0))] ++ Row.b 123 r1)) 9 #[false, false, false, true, false, false, false, false, false, false] ?_ (fun hmid80 => ?_)
        · -- state [3]
          rintro ⟨bu, bv⟩ _
          refine JA.branch [0, 1, 4, 6, 7] (by kernel_rfl) rfl ?_
          refine JAll.cons rfl ?_ ?_
          · -- 0
            refine JO.val rfl rfl rfl (.none rfl) (Ev.lB Tryd.underlying33 Tryd.sizeOf33) ?_
            exact JA.wk (hmid64 (0, 0) trivial)
          refine JAll.cons rfl ?_ ?_
          · -- 1
            refine JO.val rfl rfl rfl (.none rfl) (Ev.lB Tryd.underlying33 Tryd.sizeOf33) ?_
            exact JA.wk (hmid68 (0, 0) trivial)
          refine JAll.cons rfl ?_ ?_
          · -- 4
            refine JO.val rfl rfl rfl (.none rfl) (Ev.lB Tryd.underlying33 Tryd.sizeOf33) ?_
            exact JA.wk (hmid72 (0, 0) trivial)
          refine JAll.cons rfl ?_ ?_
          · -- 6
            refine JO.new rfl rfl rfl (.none rfl) (En.allocZ (cs := (fl [zeroD, zeroD, zeroD]).toArray) Tryd.zeroValue123 rfl) (fun b23 hb23 => ?_)
            obtain ⟨bu, rfl⟩ : ∃ b, b = b23 := ⟨_, rfl⟩
            exact JA.wk (hmid73 (bu, 0) trivial)
          refine JAll.cons rfl ?_ JAll.nil
          refine JO.new rfl rfl rfl (.none rfl) (En.allocZ (cs := (fl [zeroD, zeroD, zeroD]).toArray) Tryd.zeroValue123 rfl) (fun b24 hb24 => ?_)
          obtain ⟨bv, rfl⟩ : ∃ b, b = b24 := ⟨_, rfl⟩
          exact JA.wk (hmid74 (0, bv) trivial)
        refine JA.mid (X := Nat × Nat) (fun ⟨bu, bv⟩ => True) (fun ⟨bu, bv⟩ => [(90, .agg (arr8 (ledC (m - bel n) (n - bel n) false x q).2.1)), (11, .pointer (some ⟨b11, 0, none⟩)), (12, .pointer (some ⟨b12, 0, none⟩)), (15, .pointer (some ⟨b15, 0, none⟩)), (21, .pointer (some ⟨b21, 0, none⟩)), (22, .pointer (some ⟨b22, 0, none⟩)), (20, Row.v (stepsN (m - bel n) (n - bel n) false x q).length r1)]) (fun ⟨bu, bv⟩ => ([(b22, Obj.cells (arr8 (ledC (m - bel n) (n - bel n) false x q).2.1) 33 (0, 0)), (b21, Obj.cells (arr8 (ledC (m - bel n) (n - bel n) false x q).1.1) 33 (0, 0)), (b15, Obj.cells (arr8 y.1) 33 (0, 0)), (b12, Obj.cells (arr8 (List.replicate 32 0)) 33 (0, 0)), (b11, Obj.cells (arr8 (List.replicate 32 0)) 33 (0, 0))] ++ Row.b 123 r1)) 9 #[false, false, false, false, true, false, false, false, false, false] ?_ (fun hmid81 => ?_)
        · -- state [4]
          rintro ⟨bu, bv⟩ _
          refine JA.branch [0, 1, 3, 6, 7] (by kernel_rfl) rfl ?_
          refine JAll.cons rfl ?_ ?_
          · -- 0
            refine JO.val rfl rfl rfl (.none rfl) (Ev.lB Tryd.underlying33 Tryd.sizeOf33) ?_
            exact JA.wk (hmid65 (0, 0) trivial)
          refine JAll.cons rfl ?_ ?_
          · -- 1
            refine JO.val rfl rfl rfl (.none rfl) (Ev.lB Tryd.underlying33 Tryd.sizeOf33) ?_
            exact JA.wk (hmid69 (0, 0) trivial)
          refine JAll.cons rfl ?_ ?_
          · -- 3
            refine JO.val rfl rfl rfl (.none rfl) (Ev.lB Tryd.underlying33 Tryd.sizeOf33) ?_
            exact JA.wk (hmid72 (0, 0) trivial)
          refine JAll.cons rfl ?_ ?_
          · -- 6
            refine JO.new rfl rfl rfl (.none rfl) (En.allocZ (cs := (fl [zeroD, zeroD, zeroD]).toArray) Tryd.zeroValue123 rfl) (fun b23 hb23 => ?_)
            obtain ⟨bu, rfl⟩ : ∃ b, b = b23 := ⟨_, rfl⟩
            exact JA.wk (hmid75 (bu, 0) trivial)
          refine JAll.cons rfl ?_ JAll.nil
          refine JO.new rfl rfl rfl (.none rfl) (En.allocZ (cs := (fl [zeroD, zeroD, zeroD]).toArray) Tryd.zeroValue123 rfl) (fun b24 hb24 => ?_)
          obtain ⟨bv, rfl⟩ : ∃ b, b = b24 := ⟨_, rfl⟩
          exact JA.wk (hmid76 (0, bv) trivial)
        refine JA.mid (X := Nat × Nat) (fun ⟨bu, bv⟩ => True) (fun ⟨bu, bv⟩ => [(23, .pointer (some ⟨bu, 0, none⟩)), (11, .pointer (some ⟨b11, 0, none⟩)), (12, .pointer (some ⟨b12, 0, none⟩)), (15, .pointer (some ⟨b15, 0, none⟩)), (21, .pointer (some ⟨b21, 0, none⟩)), (22, .pointer (some ⟨b22, 0, none⟩)), (20, Row.v (stepsN (m - bel n) (n - bel n) false x q).length r1)]) (fun ⟨bu, bv⟩ => ([(bu, Obj.cells (fl [zeroD, zeroD, zeroD]).toArray 123 (0, 0)), (b22, Obj.cells (arr8 (ledC (m - bel n) (n - bel n) false x q).2.1) 33 (0, 0)), (b21, Obj.cells (arr8 (ledC (m - bel n) (n - bel n) false x q).1.1) 33 (0, 0)), (b15, Obj.cells (arr8 y.1) 33 (0, 0)), (b12, Obj.cells (arr8 (List.replicate 32 0)) 33 (0, 0)), (b11, Obj.cells (arr8 (List.replicate 32 0)) 33 (0, 0))] ++ Row.b 123 r1)) 9 #[false, false, false, false, false, false, true, false, false, false] ?_ (fun hmid82 => ?_)
        · -- state [6]
          rintro ⟨bu, bv⟩ _
          refine JA.branch [0, 1, 3, 4, 7] (by kernel_rfl) rfl ?_
          refine JAll.cons rfl ?_ ?_
          · -- 0
            refine JO.val rfl rfl rfl (.none rfl) (Ev.lB Tryd.underlying33 Tryd.sizeOf33) ?_
            exact JA.wk (hmid66 (bu, 0) trivial)
          refine JAll.cons rfl ?_ ?_
          · -- 1
            refine JO.val rfl rfl rfl (.none rfl) (Ev.lB Tryd.underlying33 Tryd.sizeOf33) ?_
            exact JA.wk (hmid70 (bu, 0) trivial)
          refine JAll.cons rfl ?_ ?_
          · -- 3
            refine JO.val rfl rfl rfl (.none rfl) (Ev.lB Tryd.underlying33 Tryd.sizeOf33) ?_
            exact JA.wk (hmid73 (bu, 0) trivial)
          refine JAll.cons rfl ?_ ?_
          · -- 4
            refine JO.val rfl rfl rfl (.none rfl) (Ev.lB Tryd.underlying33 Tryd.sizeOf33) ?_
            exact JA.wk (hmid75 (bu, 0) trivial)
          refine JAll.cons rfl ?_ JAll.nil
          refine JO.new rfl rfl rfl (.none rfl) (En.allocZ (cs := (fl [zeroD, zeroD, zeroD]).toArray) Tryd.zeroValue123 rfl) (fun b24 hb24 => ?_)
          obtain ⟨bv, rfl⟩ : ∃ b, b = b24 := ⟨_, rfl⟩
          exact JA.wk (hmid77 (bu, bv) trivial)
        refine JA.mid (X := Nat × Nat) (fun ⟨bu, bv⟩ => True) (fun ⟨bu, bv⟩ => [(24, .pointer (some ⟨bv, 0, none⟩)), (11, .pointer (some ⟨b11, 0, none⟩)), (12, .pointer (some ⟨b12, 0, none⟩)), (15, .pointer (some ⟨b15, 0, none⟩)), (21, .pointer (some ⟨b21, 0, none⟩)), (22, .pointer (some ⟨b22, 0, none⟩)), (20, Row.v (stepsN (m - bel n) (n - bel n) false x q).length r1)]) (fun ⟨bu, bv⟩ => ([(bv, Obj.cells (fl [zeroD, zeroD, zeroD]).toArray 123 (0, 0)), (b22, Obj.cells (arr8 (ledC (m - bel n) (n - bel n) false x q).2.1) 33 (0, 0)), (b21, Obj.cells (arr8 (ledC (m - bel n) (n - bel n) false x q).1.1) 33 (0, 0)), (b15, Obj.cells (arr8 y.1) 33 (0, 0)), (b12, Obj.cells (arr8 (List.replicate 32 0)) 33 (0, 0)), (b11, Obj.cells (arr8 (List.replicate 32 0)) 33 (0, 0))] ++ Row.b 123 r1)) 9 #[false, false, false, false, false, false, false, true, false, false] ?_ (fun hmid83 => ?_)
        · -- state [7]
          rintro ⟨bu, bv⟩ _
          refine JA.branch [0, 1, 3, 4, 6] (by kernel_rfl) rfl ?_
          refine JAll.cons rfl ?_ ?_
          · -- 0
            refine JO.val rfl rfl rfl (.none rfl) (Ev.lB Tryd.underlying33 Tryd.sizeOf33) ?_
            exact JA.wk (hmid67 (0, bv) trivial)
          refine JAll.cons rfl ?_ ?_
          · -- 1
            refine JO.val rfl rfl rfl (.none rfl) (Ev.lB Tryd.underlying33 Tryd.sizeOf33) ?_
            exact JA.wk (hmid71 (0, bv) trivial)
          refine JAll.cons rfl ?_ ?_
          · -- 3
            refine JO.val rfl rfl rfl (.none rfl) (Ev.lB Tryd.underlying33 Tryd.sizeOf33) ?_
            exact JA.wk (hmid74 (0, bv) trivial)
          refine JAll.cons rfl ?_ ?_
          · -- 4
            refine JO.val rfl rfl rfl (.none rfl) (Ev.lB Tryd.underlying33 Tryd.sizeOf33) ?_
            exact JA.wk (hmid76 (0, bv) trivial)
          refine JAll.cons rfl ?_ JAll.nil
          refine JO.new rfl rfl rfl (.none rfl) (En.allocZ (cs := (fl [zeroD, zeroD, zeroD]).toArray) Tryd.zeroValue123 rfl) (fun b23 hb23 => ?_)
          obtain ⟨bu, rfl⟩ : ∃ b, b = b23 := ⟨_, rfl⟩
          exact JA.wk (hmid77 (bu, bv) trivial)
        refine JA.branch [0, 1, 3, 4, 6, 7] (by kernel_rfl) rfl ?_
        refine JAll.cons rfl ?_ ?_
        · -- 0
          refine JO.val rfl rfl rfl (.none rfl) (Ev.lB Tryd.underlying33 Tryd.sizeOf33) ?_
          exact JA.wk (hmid78 (0, 0) trivial)
        refine JAll.cons rfl ?_ ?_
        · -- 1
          refine JO.val rfl rfl rfl (.none rfl) (Ev.lB Tryd.underlying33 Tryd.sizeOf33) ?_
          exact JA.wk (hmid79 (0, 0) trivial)
        refine JAll.cons rfl ?_ ?_
        · -- 3
          refine JO.val rfl rfl rfl (.none rfl) (Ev.lB Tryd.underlying33 Tryd.sizeOf33) ?_
          exact JA.wk (hmid80 (0, 0) trivial)
        refine JAll.cons rfl ?_ ?_
        · -- 4
          refine JO.val rfl rfl rfl (.none rfl) (Ev.lB Tryd.underlying33 Tryd.sizeOf33) ?_
          exact JA.wk (hmid81 (0, 0) trivial)
        refine JAll.cons rfl ?_ ?_
        · -- 6
          refine JO.new rfl rfl rfl (.none rfl) (En.allocZ (cs := (fl [zeroD, zeroD, zeroD]).toArray) Tryd.zeroValue123 rfl) (fun b23 hb23 => ?_)
          obtain ⟨bu, rfl⟩ : ∃ b, b = b23 := ⟨_, rfl⟩
          exact JA.wk (hmid82 (bu, 0) trivial)
        refine JAll.cons rfl ?_ JAll.nil
        refine JO.new rfl rfl rfl (.none rfl) (En.allocZ (cs := (fl [zeroD, zeroD, zeroD]).toArray) Tryd.zeroValue123 rfl) (fun b24 hb24 => ?_)
        obtain ⟨bv, rfl⟩ : ∃ b, b = b24 := ⟨_, rfl⟩
        exact JA.wk (hmid83 (0, bv) trivial)
      rintro ⟨b23, b24⟩
      refine JQ.thenN ?_
      refine JC.seq ?_
      refine JC.cut (X := {rn : Row // Row.ok 96 ((stepsN (m - bel n) (n - bel n) false x q).length + 2) (nfl (stepsN (m - bel n) (n - bel n) false x q) ++ nfl [(y, (ledC (m - bel n) (n - bel n) false x q).1), (y, (ledC (m - bel n) (n - bel n) false x q).2)]) (some rn)}) (fun ⟨rn, hrn⟩ => [(10, Row.v ((stepsN (m - bel n) (n - bel n) false x q).length + 2) (some rn)), (11, .pointer (some ⟨b11, 0, none⟩)), (12, .pointer (some ⟨b12, 0, none⟩))]) (fun ⟨rn, hrn⟩ => [(b12, Obj.cells (arr8 (nodeD y (ledC (m - bel n) (n - bel n) false x q).2).1) 33 (0, 0)), (b11, Obj.cells (arr8 (nodeD y (ledC (m - bel n) (n - bel n) false x q).1).1) 33 (0, 0))] ++ Row.b 123 (some rn)) ?_ ?_
      · refine JC.regionA (by kernel_rfl) ?_
        refine JA.mid (X := Nat × Row) (fun ⟨bq, rn⟩ => Row.ok 96 ((stepsN (m - bel n) (n - bel n) false x q).length + 2) (nfl (stepsN (m - bel n) (n - bel n) false x q) ++ nfl [(y, (ledC (m - bel n) (n - bel n) false x q).1), (y, (ledC (m - bel n) (n - bel n) false x q).2)]) (some rn)) (fun ⟨bq, rn⟩ => [(10, Row.v ((stepsN (m - bel n) (n - bel n) false x q).length + 2) (some rn)), (100, .agg (arr8 (nodeD y (ledC (m - bel n) (n - bel n) false x q).2).1)), (99, .pointer (some ⟨b24, 0 + 64, none⟩)), (98, .agg (arr8 (nodeD y (ledC (m - bel n) (n - bel n) false x q).1).1)), (97, .pointer (some ⟨b23, 0 + 64, none⟩)), (96, Row.v ((stepsN (m - bel n) (n - bel n) false x q).length + 2) (some rn)), (11, .pointer (some ⟨b11, 0, none⟩)), (12, .pointer (some ⟨b12, 0, none⟩)), (23, .pointer (some ⟨b23, 0, none⟩)), (24, .pointer (some ⟨b24, 0, none⟩))]) (fun ⟨bq, rn⟩ => ([(b24, Obj.cells (nfl [(y, (ledC (m - bel n) (n - bel n) false x q).2)]).toArray 123 (0, 0)), (b23, Obj.cells (nfl [(y, (ledC (m - bel n) (n - bel n) false x q).1)]).toArray 123 (0, 0)), (b12, Obj.cells (arr8 (List.replicate 32 0)) 33 (0, 0)), (b11, Obj.cells (arr8 (nodeD y (ledC (m - bel n) (n - bel n) false x q).1).1) 33 (0, 0))] ++ Row.b 123 (some rn))) 1 #[true, true, true, true, true, true, true, true, true, true, true, false] ?_ (fun hmid0 => ?_)
        · -- state [0, 1, 2, 3, 4, 5, 6, 7, 8, 9, 10]
          rintro ⟨bq, rn⟩ hrn
          refine JA.one 11 ?_
          refine JO.sto rfl rfl (.none rfl) (Es.sA Tryd.sizeOf33) ?_
          refine JA.done (by kernel_rfl) ?_
          refine JQ.cutN ⟨rn, hrn⟩ ?_ ?_
          · exact Keeps.k
          · exact Sub.k
        refine JA.mid (X := Nat × Row) (fun ⟨bq, rn⟩ => Row.ok 96 ((stepsN (m - bel n) (n - bel n) false x q).length + 2) (nfl (stepsN (m - bel n) (n - bel n) false x q) ++ nfl [(y, (ledC (m - bel n) (n - bel n) false x q).1), (y, (ledC (m - bel n) (n - bel n) false x q).2)]) (some rn)) (fun ⟨bq, rn⟩ => [(10, Row.v ((stepsN (m - bel n) (n - bel n) false x q).length + 2) (some rn)), (100, .agg (arr8 (nodeD y (ledC (m - bel n) (n - bel n) false x q).2).1)), (99, .pointer (some ⟨b24, 0 + 64, none⟩)), (98, .agg (arr8 (nodeD y (ledC (m - bel n) (n - bel n) false x q).1).1)), (97, .pointer (some ⟨b23, 0 + 64, none⟩)), (96, Row.v ((stepsN (m - bel n) (n - bel n) false x q).length + 2) (some rn)), (11, .pointer (some ⟨b11, 0, none⟩)), (12, .pointer (some ⟨b12, 0, none⟩)), (23, .pointer (some ⟨b23, 0, none⟩)), (24, .pointer (some ⟨b24, 0, none⟩))]) (fun ⟨bq, rn⟩ => ([(b24, Obj.cells (nfl [(y, (ledC (m - bel n) (n - bel n) false x q).2)]).toArray 123 (0, 0)), (b23, Obj.cells (nfl [(y, (ledC (m - bel n) (n - bel n) false x q).1)]).toArray 123 (0, 0)), (b12, Obj.cells (arr8 (List.replicate 32 0)) 33 (0, 0)), (b11, Obj.cells (arr8 (List.replicate 32 0)) 33 (0, 0))] ++ Row.b 123 (some rn))) 2 #[true, true, true, true, true, true, true, true, true, true, false, false] ?_ (fun hmid1 => ?_)
        · -- state [0, 1, 2, 3, 4, 5, 6, 7, 8, 9]
          rintro ⟨bq, rn⟩ hrn
          refine JA.one 10 ?_
          refine JO.sto rfl rfl (.none rfl) (Es.sA Tryd.sizeOf33) ?_
          exact JA.weak rfl (by kernel_rfl) (by exact Keeps.k) (by exact Sub.k) (hmid0 (0, rn) (by exact hrn))
        refine JA.mid (X := Nat × Row) (fun ⟨bq, rn⟩ => Row.ok 96 ((stepsN (m - bel n) (n - bel n) false x q).length + 2) (nfl (stepsN (m - bel n) (n - bel n) false x q) ++ nfl [(y, (ledC (m - bel n) (n - bel n) false x q).1), (y, (ledC (m - bel n) (n - bel n) false x q).2)]) (some rn)) (fun ⟨bq, rn⟩ => [(10, Row.v ((stepsN (m - bel n) (n - bel n) false x q).length + 2) (some rn)), (99, .pointer (some ⟨b24, 0 + 64, none⟩)), (98, .agg (arr8 (nodeD y (ledC (m - bel n) (n - bel n) false x q).1).1)), (97, .pointer (some ⟨b23, 0 + 64, none⟩)), (96, Row.v ((stepsN (m - bel n) (n - bel n) false x q).length + 2) (some rn)), (11, .pointer (some ⟨b11, 0, none⟩)), (12, .pointer (some ⟨b12, 0, none⟩)), (23, .pointer (some ⟨b23, 0, none⟩)), (24, .pointer (some ⟨b24, 0, none⟩))]) (fun ⟨bq, rn⟩ => ([(b24, Obj.cells (nfl [(y, (ledC (m - bel n) (n - bel n) false x q).2)]).toArray 123 (0, 0)), (b23, Obj.cells (nfl [(y, (ledC (m - bel n) (n - bel n) false x q).1)]).toArray 123 (0, 0)), (b12, Obj.cells (arr8 (List.replicate 32 0)) 33 (0, 0)), (b11, Obj.cells (arr8 (nodeD y (ledC (m - bel n) (n - bel n) false x q).1).1) 33 (0, 0))] ++ Row.b 123 (some rn))) 2 #[true, true, true, true, true, true, true, true, false, true, true, false] ?_ (fun hmid2 => ?_)
        · -- state [0, 1, 2, 3, 4, 5, 6, 7, 9, 10]
          rintro ⟨bq, rn⟩ hrn
          refine JA.one 8 ?_
          refine JO.val rfl rfl rfl (.none rfl) (Ev.loadA (l := (nodeD ((y, (ledC (m - bel n) (n - bel n) false x q).2)).1 ((y, (ledC (m - bel n) (n - bel n) false x q).2)).2).1.map u8) rfl Tryd.underlying33 rfl Tryd.sizeOf33 (Rds.ntop (p := (y, (ledC (m - bel n) (n - bel n) false x q).2)) memK) (by rw [List.length_map]; exact (nodeD ((y, (ledC (m - bel n) (n - bel n) false x q).2)).1 ((y, (ledC (m - bel n) (n - bel n) false x q).2)).2).2)) ?_
          exact JA.weak rfl (by kernel_rfl) (by exact Keeps.k) (by exact Sub.k) (hmid0 (0, rn) (by exact hrn))
        refine JA.mid (X := Nat × Row) (fun ⟨bq, rn⟩ => Row.ok 96 ((stepsN (m - bel n) (n - bel n) false x q).length + 2) (nfl (stepsN (m - bel n) (n - bel n) false x q) ++ nfl [(y, (ledC (m - bel n) (n - bel n) false x q).1), (y, (ledC (m - bel n) (n - bel n) false x q).2)]) (some rn)) (fun ⟨bq, rn⟩ => [(10, Row.v ((stepsN (m - bel n) (n - bel n) false x q).length + 2) (some rn)), (99, .pointer (some ⟨b24, 0 + 64, none⟩)), (98, .agg (arr8 (nodeD y (ledC (m - bel n) (n - bel n) false x q).1).1)), (97, .pointer (some ⟨b23, 0 + 64, none⟩)), (96, Row.v ((stepsN (m - bel n) (n - bel n) false x q).length + 2) (some rn)), (11, .pointer (some ⟨b11, 0, none⟩)), (12, .pointer (some ⟨b12, 0, none⟩)), (23, .pointer (some ⟨b23, 0, none⟩)), (24, .pointer (some ⟨b24, 0, none⟩))]) (fun ⟨bq, rn⟩ => ([(b24, Obj.cells (nfl [(y, (ledC (m - bel n) (n - bel n) false x q).2)]).toArray 123 (0, 0)), (b23, Obj.cells (nfl [(y, (ledC (m - bel n) (n - bel n) false x q).1)]).toArray 123 (0, 0)), (b12, Obj.cells (arr8 (List.replicate 32 0)) 33 (0, 0)), (b11, Obj.cells (arr8 (List.replicate 32 0)) 33 (0, 0))] ++ Row.b 123 (some rn))) 3 #[true, true, true, true, true, true, true, true, false, true, false, false] ?_ (fun hmid3 => ?_)
        · -- state [0, 1, 2, 3, 4, 5, 6, 7, 9]
          rintro ⟨bq, rn⟩ hrn
          refine JA.branch [8, 10] (by kernel_rfl) rfl ?_
          refine JAll.cons rfl ?_ ?_
          · -- 8
            refine JO.val rfl rfl rfl (.none rfl) (Ev.loadA (l := (nodeD ((y, (ledC (m - bel n) (n - bel n) false x q).2)).1 ((y, (ledC (m - bel n) (n - bel n) false x q).2)).2).1.map u8) rfl Tryd.underlying33 rfl Tryd.sizeOf33 (Rds.ntop (p := (y, (ledC (m - bel n) (n - bel n) false x q).2)) memK) (by rw [List.length_map]; exact (nodeD ((y, (ledC (m - bel n) (n - bel n) false x q).2)).1 ((y, (ledC (m - bel n) (n - bel n) false x q).2)).2).2)) ?_
            exact JA.weak rfl (by kernel_rfl) (by exact Keeps.k) (by exact Sub.k) (hmid1 (0, rn) (by exact hrn))
          refine JAll.cons rfl ?_ JAll.nil
          refine JO.sto rfl rfl (.none rfl) (Es.sA Tryd.sizeOf33) ?_
          exact JA.weak rfl (by kernel_rfl) (by exact Keeps.k) (by exact Sub.k) (hmid2 (0, rn) (by exact hrn))
        refine JA.mid (X := Nat × Row) (fun ⟨bq, rn⟩ => Row.ok 96 ((stepsN (m - bel n) (n - bel n) false x q).length + 2) (nfl (stepsN (m - bel n) (n - bel n) false x q) ++ nfl [(y, (ledC (m - bel n) (n - bel n) false x q).1), (y, (ledC (m - bel n) (n - bel n) false x q).2)]) (some rn)) (fun ⟨bq, rn⟩ => [(10, Row.v ((stepsN (m - bel n) (n - bel n) false x q).length + 2) (some rn)), (100, .agg (arr8 (nodeD y (ledC (m - bel n) (n - bel n) false x q).2).1)), (99, .pointer (some ⟨b24, 0 + 64, none⟩)), (97, .pointer (some ⟨b23, 0 + 64, none⟩)), (96, Row.v ((stepsN (m - bel n) (n - bel n) false x q).length + 2) (some rn)), (11, .pointer (some ⟨b11, 0, none⟩)), (12, .pointer (some ⟨b12, 0, none⟩)), (23, .pointer (some ⟨b23, 0, none⟩)), (24, .pointer (some ⟨b24, 0, none⟩))]) (fun ⟨bq, rn⟩ => ([(b24, Obj.cells (nfl [(y, (ledC (m - bel n) (n - bel n) false x q).2)]).toArray 123 (0, 0)), (b23, Obj.cells (nfl [(y, (ledC (m - bel n) (n - bel n) false x q).1)]).toArray 123 (0, 0)), (b12, Obj.cells (arr8 (List.replicate 32 0)) 33 (0, 0)), (b11, Obj.cells (arr8 (List.replicate 32 0)) 33 (0, 0))] ++ Row.b 123 (some rn))) 3 #[true, true, true, true, true, true, false, true, true, true, false, false] ?_ (fun hmid4 => ?_)
        · -- state [0, 1, 2, 3, 4, 5, 7, 8, 9]
          rintro ⟨bq, rn⟩ hrn
          refine JA.one 6 ?_
          refine JO.val rfl rfl rfl (.none rfl) (Ev.loadA (l := (nodeD ((y, (ledC (m - bel n) (n - bel n) false x q).1)).1 ((y, (ledC (m - bel n) (n - bel n) false x q).1)).2).1.map u8) rfl Tryd.underlying33 rfl Tryd.sizeOf33 (Rds.ntop (p := (y, (ledC (m - bel n) (n - bel n) false x q).1)) memK) (by rw [List.length_map]; exact (nodeD ((y, (ledC (m - bel n) (n - bel n) false x q).1)).1 ((y, (ledC (m - bel n) (n - bel n) false x q).1)).2).2)) ?_
          exact JA.weak rfl (by kernel_rfl) (by exact Keeps.k) (by exact Sub.k) (hmid1 (0, rn) (by exact hrn))
        refine JA.mid (X := Nat × Row) (fun ⟨bq, rn⟩ => Row.ok 96 ((stepsN (m - bel n) (n - bel n) false x q).length + 2) (nfl (stepsN (m - bel n) (n - bel n) false x q) ++ nfl [(y, (ledC (m - bel n) (n - bel n) false x q).1), (y, (ledC (m - bel n) (n - bel n) false x q).2)]) (some rn)) (fun ⟨bq, rn⟩ => [(10, Row.v ((stepsN (m - bel n) (n - bel n) false x q).length + 2) (some rn)), (99, .pointer (some ⟨b24, 0 + 64, none⟩)), (97, .pointer (some ⟨b23, 0 + 64, none⟩)), (96, Row.v ((stepsN (m - bel n) (n - bel n) false x q).length + 2) (some rn)), (11, .pointer (some ⟨b11, 0, none⟩)), (12, .pointer (some ⟨b12, 0, none⟩)), (23, .pointer (some ⟨b23, 0, none⟩)), (24, .pointer (some ⟨b24, 0, none⟩))]) (fun ⟨bq, rn⟩ => ([(b24, Obj.cells (nfl [(y, (ledC (m - bel n) (n - bel n) false x q).2)]).toArray 123 (0, 0)), (b23, Obj.cells (nfl [(y, (ledC (m - bel n) (n - bel n) false x q).1)]).toArray 123 (0, 0)), (b12, Obj.cells (arr8 (List.replicate 32 0)) 33 (0, 0)), (b11, Obj.cells (arr8 (List.replicate 32 0)) 33 (0, 0))] ++ Row.b 123 (some rn))) 4 #[true, true, true, true, true, true, false, true, false, true, false, false] ?_ (fun hmid5 => ?_)
        · -- state [0, 1, 2, 3, 4, 5, 7, 9]
          rintro ⟨bq, rn⟩ hrn
          refine JA.branch [6, 8] (by kernel_rfl) rfl ?_
          refine JAll.cons rfl ?_ ?_
          · -- 6
            refine JO.val rfl rfl rfl (.none rfl) (Ev.loadA (l := (nodeD ((y, (ledC (m - bel n) (n - bel n) false x q).1)).1 ((y, (ledC (m - bel n) (n - bel n) false x q).1)).2).1.map u8) rfl Tryd.underlying33 rfl Tryd.sizeOf33 (Rds.ntop (p := (y, (ledC (m - bel n) (n - bel n) false x q).1)) memK) (by rw [List.length_map]; exact (nodeD ((y, (ledC (m - bel n) (n - bel n) false x q).1)).1 ((y, (ledC (m - bel n) (n - bel n) false x q).1)).2).2)) ?_
            exact JA.weak rfl (by kernel_rfl) (by exact Keeps.k) (by exact Sub.k) (hmid3 (0, rn) (by exact hrn))
          refine JAll.cons rfl ?_ JAll.nil
          refine JO.val rfl rfl rfl (.none rfl) (Ev.loadA (l := (nodeD ((y, (ledC (m - bel n) (n - bel n) false x q).2)).1 ((y, (ledC (m - bel n) (n - bel n) false x q).2)).2).1.map u8) rfl Tryd.underlying33 rfl Tryd.sizeOf33 (Rds.ntop (p := (y, (ledC (m - bel n) (n - bel n) false x q).2)) memK) (by rw [List.length_map]; exact (nodeD ((y, (ledC (m - bel n) (n - bel n) false x q).2)).1 ((y, (ledC (m - bel n) (n - bel n) false x q).2)).2).2)) ?_
          exact JA.weak rfl (by kernel_rfl) (by exact Keeps.k) (by exact Sub.k) (hmid4 (0, rn) (by exact hrn))
        refine JA.mid (X := Nat × Row) (fun ⟨bq, rn⟩ => True) (fun ⟨bq, rn⟩ => [(100, .agg (arr8 (nodeD y (ledC (m - bel n) (n - bel n) false x q).2).1)), (99, .pointer (some ⟨b24, 0 + 64, none⟩)), (98, .agg (arr8 (nodeD y (ledC (m - bel n) (n - bel n) false x q).1).1)), (97, .pointer (some ⟨b23, 0 + 64, none⟩)), (95, .slice (some ⟨bq, 0, none⟩) 2 2), (92, Row.v (stepsN (m - bel n) (n - bel n) false x q).length r1), (11, .pointer (some ⟨b11, 0, none⟩)), (12, .pointer (some ⟨b12, 0, none⟩)), (23, .pointer (some ⟨b23, 0, none⟩)), (24, .pointer (some ⟨b24, 0, none⟩))]) (fun ⟨bq, rn⟩ => ([(bq, Obj.cells (nfl [(y, (ledC (m - bel n) (n - bel n) false x q).1), (y, (ledC (m - bel n) (n - bel n) false x q).2)]).toArray 123 (0, 0)), (b24, Obj.cells (nfl [(y, (ledC (m - bel n) (n - bel n) false x q).2)]).toArray 123 (0, 0)), (b23, Obj.cells (nfl [(y, (ledC (m - bel n) (n - bel n) false x q).1)]).toArray 123 (0, 0)), (b12, Obj.cells (arr8 (List.replicate 32 0)) 33 (0, 0)), (b11, Obj.cells (arr8 (List.replicate 32 0)) 33 (0, 0))] ++ Row.b 123 r1)) 4 #[true, true, true, true, false, true, true, true, true, false, false, false] ?_ (fun hmid6 => ?_)
        · -- state [0, 1, 2, 3, 5, 6, 7, 8]
          rintro ⟨bq, rn⟩ _
          refine JA.one 4 ?_
          refine JO.gen rfl rfl rfl (.none rfl) (Eg.append1 (r := r1) (n := (stepsN (m - bel n) (n - bel n) false x q).length) (xs := nfl (stepsN (m - bel n) (n - bel n) false x q)) (news := nfl [(y, (ledC (m - bel n) (n - bel n) false x q).1), (y, (ledC (m - bel n) (n - bel n) false x q).2)]) (z := (.agg (fl [zeroD, zeroD, zeroD]).toArray)) (s := 96) (bytes := 96) rfl rfl rfl Cut.k Tryd.underlying78 (by kernel_rfl) (by rw [show (Value.agg (fl [zeroD, zeroD, zeroD]).toArray).cells = (fl [zeroD, zeroD, zeroD]).toArray from rfl, List.size_toArray, fl_length]; rfl) (by decide) (by decide) hr1 (Rds.all memK) (nfl_length _) (by decide) (nfl_one _) (by have := hpl; omega)) ?_
          rintro _ _ ⟨rn, rfl, rfl, hrn⟩
          refine JA.tkc 9 rfl (.none rfl) (fun _ => (Ev.assign rfl)) ?_
          exact JA.weak rfl (by kernel_rfl) (by exact Keeps.k) (by exact Sub.k) (hmid1 (0, rn) (by exact hrn))
        refine JA.mid (X := Nat × Row) (fun ⟨bq, rn⟩ => True) (fun ⟨bq, rn⟩ => [(99, .pointer (some ⟨b24, 0 + 64, none⟩)), (98, .agg (arr8 (nodeD y (ledC (m - bel n) (n - bel n) false x q).1).1)), (97, .pointer (some ⟨b23, 0 + 64, none⟩)), (95, .slice (some ⟨bq, 0, none⟩) 2 2), (92, Row.v (stepsN (m - bel n) (n - bel n) false x q).length r1), (11, .pointer (some ⟨b11, 0, none⟩)), (12, .pointer (some ⟨b12, 0, none⟩)), (23, .pointer (some ⟨b23, 0, none⟩)), (24, .pointer (some ⟨b24, 0, none⟩))]) (fun ⟨bq, rn⟩ => ([(bq, Obj.cells (nfl [(y, (ledC (m - bel n) (n - bel n) false x q).1), (y, (ledC (m - bel n) (n - bel n) false x q).2)]).toArray 123 (0, 0)), (b24, Obj.cells (nfl [(y, (ledC (m - bel n) (n - bel n) false x q).2)]).toArray 123 (0, 0)), (b23, Obj.cells (nfl [(y, (ledC (m - bel n) (n - bel n) false x q).1)]).toArray 123 (0, 0)), (b12, Obj.cells (arr8 (List.replicate 32 0)) 33 (0, 0)), (b11, Obj.cells (arr8 (List.replicate 32 0)) 33 (0, 0))] ++ Row.b 123 r1)) 5 #[true, true, true, true, false, true, true, true, false, false, false, false] ?_ (fun hmid7 => ?_)
        · -- state [0, 1, 2, 3, 5, 6, 7]
          rintro ⟨bq, rn⟩ _
          refine JA.branch [4, 8] (by kernel_rfl) rfl ?_
          refine JAll.cons rfl ?_ ?_
          · -- 4
            refine JO.gen rfl rfl rfl (.none rfl) (Eg.append1 (r := r1) (n := (stepsN (m - bel n) (n - bel n) false x q).length) (xs := nfl (stepsN (m - bel n) (n - bel n) false x q)) (news := nfl [(y, (ledC (m - bel n) (n - bel n) false x q).1), (y, (ledC (m - bel n) (n - bel n) false x q).2)]) (z := (.agg (fl [zeroD, zeroD, zeroD]).toArray)) (s := 96) (bytes := 96) rfl rfl rfl Cut.k Tryd.underlying78 (by kernel_rfl) (by rw [show (Value.agg (fl [zeroD, zeroD, zeroD]).toArray).cells = (fl [zeroD, zeroD, zeroD]).toArray from rfl, List.size_toArray, fl_length]; rfl) (by decide) (by decide) hr1 (Rds.all memK) (nfl_length _) (by decide) (nfl_one _) (by have := hpl; omega)) ?_
            rintro _ _ ⟨rn, rfl, rfl, hrn⟩
            refine JA.tkc 9 rfl (.none rfl) (fun _ => (Ev.assign rfl)) ?_
            exact JA.weak rfl (by kernel_rfl) (by exact Keeps.k) (by exact Sub.k) (hmid3 (0, rn) (by exact hrn))
          refine JAll.cons rfl ?_ JAll.nil
          refine JO.val rfl rfl rfl (.none rfl) (Ev.loadA (l := (nodeD ((y, (ledC (m - bel n) (n - bel n) false x q).2)).1 ((y, (ledC (m - bel n) (n - bel n) false x q).2)).2).1.map u8) rfl Tryd.underlying33 rfl Tryd.sizeOf33 (Rds.ntop (p := (y, (ledC (m - bel n) (n - bel n) false x q).2)) memK) (by rw [List.length_map]; exact (nodeD ((y, (ledC (m - bel n) (n - bel n) false x q).2)).1 ((y, (ledC (m - bel n) (n - bel n) false x q).2)).2).2)) ?_
          exact JA.wk (hmid6 (bq, ⟨0, 0, #[]⟩) trivial)
        refine JA.mid (X := Nat × Row) (fun ⟨bq, rn⟩ => True) (fun ⟨bq, rn⟩ => [(100, .agg (arr8 (nodeD y (ledC (m - bel n) (n - bel n) false x q).2).1)), (99, .pointer (some ⟨b24, 0 + 64, none⟩)), (97, .pointer (some ⟨b23, 0 + 64, none⟩)), (95, .slice (some ⟨bq, 0, none⟩) 2 2), (92, Row.v (stepsN (m - bel n) (n - bel n) false x q).length r1), (11, .pointer (some ⟨b11, 0, none⟩)), (12, .pointer (some ⟨b12, 0, none⟩)), (23, .pointer (some ⟨b23, 0, none⟩)), (24, .pointer (some ⟨b24, 0, none⟩))]) (fun ⟨bq, rn⟩ => ([(bq, Obj.cells (nfl [(y, (ledC (m - bel n) (n - bel n) false x q).1), (y, (ledC (m - bel n) (n - bel n) false x q).2)]).toArray 123 (0, 0)), (b24, Obj.cells (nfl [(y, (ledC (m - bel n) (n - bel n) false x q).2)]).toArray 123 (0, 0)), (b23, Obj.cells (nfl [(y, (ledC (m - bel n) (n - bel n) false x q).1)]).toArray 123 (0, 0)), (b12, Obj.cells (arr8 (List.replicate 32 0)) 33 (0, 0)), (b11, Obj.cells (arr8 (List.replicate 32 0)) 33 (0, 0))] ++ Row.b 123 r1)) 5 #[true, true, true, true, false, true, false, true, true, false, false, false] ?_ (fun hmid8 => ?_)
        · -- state [0, 1, 2, 3, 5, 7, 8]
          rintro ⟨bq, rn⟩ _
          refine JA.branch [4, 6] (by kernel_rfl) rfl ?_
          refine JAll.cons rfl ?_ ?_
          · -- 4
            refine JO.gen rfl rfl rfl (.none rfl) (Eg.append1 (r := r1) (n := (stepsN (m - bel n) (n - bel n) false x q).length) (xs := nfl (stepsN (m - bel n) (n - bel n) false x q)) (news := nfl [(y, (ledC (m - bel n) (n - bel n) false x q).1), (y, (ledC (m - bel n) (n - bel n) false x q).2)]) (z := (.agg (fl [zeroD, zeroD, zeroD]).toArray)) (s := 96) (bytes := 96) rfl rfl rfl Cut.k Tryd.underlying78 (by kernel_rfl) (by rw [show (Value.agg (fl [zeroD, zeroD, zeroD]).toArray).cells = (fl [zeroD, zeroD, zeroD]).toArray from rfl, List.size_toArray, fl_length]; rfl) (by decide) (by decide) hr1 (Rds.all memK) (nfl_length _) (by decide) (nfl_one _) (by have := hpl; omega)) ?_
            rintro _ _ ⟨rn, rfl, rfl, hrn⟩
            refine JA.tkc 9 rfl (.none rfl) (fun _ => (Ev.assign rfl)) ?_
            exact JA.weak rfl (by kernel_rfl) (by exact Keeps.k) (by exact Sub.k) (hmid4 (0, rn) (by exact hrn))
          refine JAll.cons rfl ?_ JAll.nil
          refine JO.val rfl rfl rfl (.none rfl) (Ev.loadA (l := (nodeD ((y, (ledC (m - bel n) (n - bel n) false x q).1)).1 ((y, (ledC (m - bel n) (n - bel n) false x q).1)).2).1.map u8) rfl Tryd.underlying33 rfl Tryd.sizeOf33 (Rds.ntop (p := (y, (ledC (m - bel n) (n - bel n) false x q).1)) memK) (by rw [List.length_map]; exact (nodeD ((y, (ledC (m - bel n) (n - bel n) false x q).1)).1 ((y, (ledC (m - bel n) (n - bel n) false x q).1)).2).2)) ?_
          exact JA.wk (hmid6 (bq, ⟨0, 0, #[]⟩) trivial)
        refine JA.mid (X := Nat × Row) (fun ⟨bq, rn⟩ => True) (fun ⟨bq, rn⟩ => [(100, .agg (arr8 (nodeD y (ledC (m - bel n) (n - bel n) false x q).2).1)), (99, .pointer (some ⟨b24, 0 + 64, none⟩)), (98, .agg (arr8 (nodeD y (ledC (m - bel n) (n - bel n) false x q).1).1)), (97, .pointer (some ⟨b23, 0 + 64, none⟩)), (94, .agg (nfl [(y, (ledC (m - bel n) (n - bel n) false x q).2)]).toArray), (93, .agg (nfl [(y, (ledC (m - bel n) (n - bel n) false x q).1)]).toArray), (92, Row.v (stepsN (m - bel n) (n - bel n) false x q).length r1), (11, .pointer (some ⟨b11, 0, none⟩)), (12, .pointer (some ⟨b12, 0, none⟩)), (23, .pointer (some ⟨b23, 0, none⟩)), (24, .pointer (some ⟨b24, 0, none⟩))]) (fun ⟨bq, rn⟩ => ([(b24, Obj.cells (nfl [(y, (ledC (m - bel n) (n - bel n) false x q).2)]).toArray 123 (0, 0)), (b23, Obj.cells (nfl [(y, (ledC (m - bel n) (n - bel n) false x q).1)]).toArray 123 (0, 0)), (b12, Obj.cells (arr8 (List.replicate 32 0)) 33 (0, 0)), (b11, Obj.cells (arr8 (List.replicate 32 0)) 33 (0, 0))] ++ Row.b 123 r1)) 5 #[true, true, true, false, false, true, true, true, true, false, false, false] ?_ (fun hmid9 => ?_)
        · -- state [0, 1, 2, 5, 6, 7, 8]
          rintro ⟨bq, rn⟩ _
          refine JA.one 3 ?_
          refine JO.new rfl rfl rfl (.none rfl) (En.bs2N rfl rfl Tryd.underlying78 Tryd.sizeOf123 Tryd.zeroValue123) (fun b95 hb95 => ?_)
          obtain ⟨bq, rfl⟩ : ∃ b, b = b95 := ⟨_, rfl⟩
          exact JA.wk (hmid6 (bq, ⟨0, 0, #[]⟩) trivial)
        refine JA.mid (X := Nat × Row) (fun ⟨bq, rn⟩ => True) (fun ⟨bq, rn⟩ => [(99, .pointer (some ⟨b24, 0 + 64, none⟩)), (97, .pointer (some ⟨b23, 0 + 64, none⟩)), (95, .slice (some ⟨bq, 0, none⟩) 2 2), (92, Row.v (stepsN (m - bel n) (n - bel n) false x q).length r1), (11, .pointer (some ⟨b11, 0, none⟩)), (12, .pointer (some ⟨b12, 0, none⟩)), (23, .pointer (some ⟨b23, 0, none⟩)), (24, .pointer (some ⟨b24, 0, none⟩))]) (fun ⟨bq, rn⟩ => ([(bq, Obj.cells (nfl [(y, (ledC (m - bel n) (n - bel n) false x q).1), (y, (ledC (m - bel n) (n - bel n) false x q).2)]).toArray 123 (0, 0)), (b24, Obj.cells (nfl [(y, (ledC (m - bel n) (n - bel n) false x q).2)]).toArray 123 (0, 0)), (b23, Obj.cells (nfl [(y, (ledC (m - bel n) (n - bel n) false x q).1)]).toArray 123 (0, 0)), (b12, Obj.cells (arr8 (List.replicate 32 0)) 33 (0, 0)), (b11, Obj.cells (arr8 (List.replicate 32 0)) 33 (0, 0))] ++ Row.b 123 r1)) 6 #[true, true, true, true, false, true, false, true, false, false, false, false] ?_ (fun hmid10 => ?_)
        · -- state [0, 1, 2, 3, 5, 7]
          rintro ⟨bq, rn⟩ _
          refine JA.branch [4, 6, 8] (by kernel_rfl) rfl ?_
          refine JAll.cons rfl ?_ ?_
          · -- 4
            refine JO.gen rfl rfl rfl (.none rfl) (Eg.append1 (r := r1) (n := (stepsN (m - bel n) (n - bel n) false x q).length) (xs := nfl (stepsN (m - bel n) (n - bel n) false x q)) (news := nfl [(y, (ledC (m - bel n) (n - bel n) false x q).1), (y, (ledC (m - bel n) (n - bel n) false x q).2)]) (z := (.agg (fl [zeroD, zeroD, zeroD]).toArray)) (s := 96) (bytes := 96) rfl rfl rfl Cut.k Tryd.underlying78 (by kernel_rfl) (by rw [show (Value.agg (fl [zeroD, zeroD, zeroD]).toArray).cells = (fl [zeroD, zeroD, zeroD]).toArray from rfl, List.size_toArray, fl_length]; rfl) (by decide) (by decide) hr1 (Rds.all memK) (nfl_length _) (by decide) (nfl_one _) (by have := hpl; omega)) ?_
            rintro _ _ ⟨rn, rfl, rfl, hrn⟩
            refine JA.tkc 9 rfl (.none rfl) (fun _ => (Ev.assign rfl)) ?_
            exact JA.weak rfl (by kernel_rfl) (by exact Keeps.k) (by exact Sub.k) (hmid5 (0, rn) (by exact hrn))
          refine JAll.cons rfl ?_ ?_
          · -- 6
            refine JO.val rfl rfl rfl (.none rfl) (Ev.loadA (l := (nodeD ((y, (ledC (m - bel n) (n - bel n) false x q).1)).1 ((y, (ledC (m - bel n) (n - bel n) false x q).1)).2).1.map u8) rfl Tryd.underlying33 rfl Tryd.sizeOf33 (Rds.ntop (p := (y, (ledC (m - bel n) (n - bel n) false x q).1)) memK) (by rw [List.length_map]; exact (nodeD ((y, (ledC (m - bel n) (n - bel n) false x q).1)).1 ((y, (ledC (m - bel n) (n - bel n) false x q).1)).2).2)) ?_
            exact JA.wk (hmid7 (bq, ⟨0, 0, #[]⟩) trivial)
          refine JAll.cons rfl ?_ JAll.nil
          refine JO.val rfl rfl rfl (.none rfl) (Ev.loadA (l := (nodeD ((y, (ledC (m - bel n) (n - bel n) false x q).2)).1 ((y, (ledC (m - bel n) (n - bel n) false x q).2)).2).1.map u8) rfl Tryd.underlying33 rfl Tryd.sizeOf33 (Rds.ntop (p := (y, (ledC (m - bel n) (n - bel n) false x q).2)) memK) (by rw [List.length_map]; exact (nodeD ((y, (ledC (m - bel n) (n - bel n) false x q).2)).1 ((y, (ledC (m - bel n) (n - bel n) false x q).2)).2).2)) ?_
          exact JA.wk (hmid8 (bq, ⟨0, 0, #[]⟩) trivial)
        refine JA.mid (X := Nat × Row) (fun ⟨bq, rn⟩ => True) (fun ⟨bq, rn⟩ => [(99, .pointer (some ⟨b24, 0 + 64, none⟩)), (98, .agg (arr8 (nodeD y (ledC (m - bel n) (n - bel n) false x q).1).1)), (97, .pointer (some ⟨b23, 0 + 64, none⟩)), (94, .agg (nfl [(y, (ledC (m - bel n) (n - bel n) false x q).2)]).toArray), (93, .agg (nfl [(y, (ledC (m - bel n) (n - bel n) false x q).1)]).toArray), (92, Row.v (stepsN (m - bel n) (n - bel n) false x q).length r1), (11, .pointer (some ⟨b11, 0, none⟩)), (12, .pointer (some ⟨b12, 0, none⟩)), (23, .pointer (some ⟨b23, 0, none⟩)), (24, .pointer (some ⟨b24, 0, none⟩))]) (fun ⟨bq, rn⟩ => ([(b24, Obj.cells (nfl [(y, (ledC (m - bel n) (n - bel n) false x q).2)]).toArray 123 (0, 0)), (b23, Obj.cells (nfl [(y, (ledC (m - bel n) (n - bel n) false x q).1)]).toArray 123 (0, 0)), (b12, Obj.cells (arr8 (List.replicate 32 0)) 33 (0, 0)), (b11, Obj.cells (arr8 (List.replicate 32 0)) 33 (0, 0))] ++ Row.b 123 r1)) 6 #[true, true, true, false, false, true, true, true, false, false, false, false] ?_ (fun hmid11 => ?_)
        · -- state [0, 1, 2, 5, 6, 7]
          rintro ⟨bq, rn⟩ _
          refine JA.branch [3, 8] (by kernel_rfl) rfl ?_
          refine JAll.cons rfl ?_ ?_
          · -- 3
            refine JO.new rfl rfl rfl (.none rfl) (En.bs2N rfl rfl Tryd.underlying78 Tryd.sizeOf123 Tryd.zeroValue123) (fun b95 hb95 => ?_)
            obtain ⟨bq, rfl⟩ : ∃ b, b = b95 := ⟨_, rfl⟩
            exact JA.wk (hmid7 (bq, ⟨0, 0, #[]⟩) trivial)
          refine JAll.cons rfl ?_ JAll.nil
          refine JO.val rfl rfl rfl (.none rfl) (Ev.loadA (l := (nodeD ((y, (ledC (m - bel n) (n - bel n) false x q).2)).1 ((y, (ledC (m - bel n) (n - bel n) false x q).2)).2).1.map u8) rfl Tryd.underlying33 rfl Tryd.sizeOf33 (Rds.ntop (p := (y, (ledC (m - bel n) (n - bel n) false x q).2)) memK) (by rw [List.length_map]; exact (nodeD ((y, (ledC (m - bel n) (n - bel n) false x q).2)).1 ((y, (ledC (m - bel n) (n - bel n) false x q).2)).2).2)) ?_
          exact JA.wk (hmid9 (0, ⟨0, 0, #[]⟩) trivial)
        refine JA.mid (X := Nat × Row) (fun ⟨bq, rn⟩ => True) (fun ⟨bq, rn⟩ => [(100, .agg (arr8 (nodeD y (ledC (m - bel n) (n - bel n) false x q).2).1)), (99, .pointer (some ⟨b24, 0 + 64, none⟩)), (97, .pointer (some ⟨b23, 0 + 64, none⟩)), (94, .agg (nfl [(y, (ledC (m - bel n) (n - bel n) false x q).2)]).toArray), (93, .agg (nfl [(y, (ledC (m - bel n) (n - bel n) false x q).1)]).toArray), (92, Row.v (stepsN (m - bel n) (n - bel n) false x q).length r1), (11, .pointer (some ⟨b11, 0, none⟩)), (12, .pointer (some ⟨b12, 0, none⟩)), (23, .pointer (some ⟨b23, 0, none⟩)), (24, .pointer (some ⟨b24, 0, none⟩))]) (fun ⟨bq, rn⟩ => ([(b24, Obj.cells (nfl [(y, (ledC (m - bel n) (n - bel n) false x q).2)]).toArray 123 (0, 0)), (b23, Obj.cells (nfl [(y, (ledC (m - bel n) (n - bel n) false x q).1)]).toArray 123 (0, 0)), (b12, Obj.cells (arr8 (List.replicate 32 0)) 33 (0, 0)), (b11, Obj.cells (arr8 (List.replicate 32 0)) 33 (0, 0))] ++ Row.b 123 r1)) 6 #[true, true, true, false, false, true, false, true, true, false, false, false] ?_ (fun hmid12 => ?_)
        · -- state [0, 1, 2, 5, 7, 8]
          rintro ⟨bq, rn⟩ _
          refine JA.branch [3, 6] (by kernel_rfl) rfl ?_
          refine JAll.cons rfl ?_ ?_
          · -- 3
            refine JO.new rfl rfl rfl (.none rfl) (En.bs2N rfl rfl Tryd.underlying78 Tryd.sizeOf123 Tryd.zeroValue123) (fun b95 hb95 => ?_)
            obtain ⟨bq, rfl⟩ : ∃ b, b = b95 := ⟨_, rfl⟩
            exact JA.wk (hmid8 (bq, ⟨0, 0, #[]⟩) trivial)
          refine JAll.cons rfl ?_ JAll.nil
          refine JO.val rfl rfl rfl (.none rfl) (Ev.loadA (l := (nodeD ((y, (ledC (m - bel n) (n - bel n) false x q).1)).1 ((y, (ledC (m - bel n) (n - bel n) false x q).1)).2).1.map u8) rfl Tryd.underlying33 rfl Tryd.sizeOf33 (Rds.ntop (p := (y, (ledC (m - bel n) (n - bel n) false x q).1)) memK) (by rw [List.length_map]; exact (nodeD ((y, (ledC (m - bel n) (n - bel n) false x q).1)).1 ((y, (ledC (m - bel n) (n - bel n) false x q).1)).2).2)) ?_
          exact JA.wk (hmid9 (0, ⟨0, 0, #[]⟩) trivial)
        refine JA.mid (X := Nat × Row) (fun ⟨bq, rn⟩ => True) (fun ⟨bq, rn⟩ => [(100, .agg (arr8 (nodeD y (ledC (m - bel n) (n - bel n) false x q).2).1)), (99, .pointer (some ⟨b24, 0 + 64, none⟩)), (98, .agg (arr8 (nodeD y (ledC (m - bel n) (n - bel n) false x q).1).1)), (97, .pointer (some ⟨b23, 0 + 64, none⟩)), (93, .agg (nfl [(y, (ledC (m - bel n) (n - bel n) false x q).1)]).toArray), (92, Row.v (stepsN (m - bel n) (n - bel n) false x q).length r1), (11, .pointer (some ⟨b11, 0, none⟩)), (12, .pointer (some ⟨b12, 0, none⟩)), (23, .pointer (some ⟨b23, 0, none⟩)), (24, .pointer (some ⟨b24, 0, none⟩))]) (fun ⟨bq, rn⟩ => ([(b24, Obj.cells (nfl [(y, (ledC (m - bel n) (n - bel n) false x q).2)]).toArray 123 (0, 0)), (b23, Obj.cells (nfl [(y, (ledC (m - bel n) (n - bel n) false x q).1)]).toArray 123 (0, 0)), (b12, Obj.cells (arr8 (List.replicate 32 0)) 33 (0, 0)), (b11, Obj.cells (arr8 (List.replicate 32 0)) 33 (0, 0))] ++ Row.b 123 r1)) 6 #[true, true, false, false, false, true, true, true, true, false, false, false] ?_ (fun hmid13 => ?_)
        · -- state [0, 1, 5, 6, 7, 8]
          rintro ⟨bq, rn⟩ _
          refine JA.one 2 ?_
          refine JO.val rfl rfl rfl (.none rfl) (Ev.loadB rfl memK Tryd.underlying123 rfl Tryd.sizeOf123 (nfl_size _)) ?_
          exact JA.wk (hmid9 (0, ⟨0, 0, #[]⟩) trivial)
        refine JA.mid (X := Nat × Row) (fun ⟨bq, rn⟩ => True) (fun ⟨bq, rn⟩ => [(100, .agg (arr8 (nodeD y (ledC (m - bel n) (n - bel n) false x q).2).1)), (99, .pointer (some ⟨b24, 0 + 64, none⟩)), (98, .agg (arr8 (nodeD y (ledC (m - bel n) (n - bel n) false x q).1).1)), (97, .pointer (some ⟨b23, 0 + 64, none⟩)), (94, .agg (nfl [(y, (ledC (m - bel n) (n - bel n) false x q).2)]).toArray), (92, Row.v (stepsN (m - bel n) (n - bel n) false x q).length r1), (11, .pointer (some ⟨b11, 0, none⟩)), (12, .pointer (some ⟨b12, 0, none⟩)), (23, .pointer (some ⟨b23, 0, none⟩)), (24, .pointer (some ⟨b24, 0, none⟩))]) (fun ⟨bq, rn⟩ => ([(b24, Obj.cells (nfl [(y, (ledC (m - bel n) (n - bel n) false x q).2)]).toArray 123 (0, 0)), (b23, Obj.cells (nfl [(y, (ledC (m - bel n) (n - bel n) false x q).1)]).toArray 123 (0, 0)), (b12, Obj.cells (arr8 (List.replicate 32 0)) 33 (0, 0)), (b11, Obj.cells (arr8 (List.replicate 32 0)) 33 (0, 0))] ++ Row.b 123 r1)) 6 #[true, false, true, false, false, true, true, true, true, false, false, false] ?_ (fun hmid14 => ?_)
        · -- state [0, 2, 5, 6, 7, 8]
          rintro ⟨bq, rn⟩ _
          refine JA.one 1 ?_
          refine JO.val rfl rfl rfl (.none rfl) (Ev.loadB rfl memK Tryd.underlying123 rfl Tryd.sizeOf123 (nfl_size _)) ?_
          exact JA.wk (hmid9 (0, ⟨0, 0, #[]⟩) trivial)
        refine JA.mid (X := Nat × Row) (fun ⟨bq, rn⟩ => True) (fun ⟨bq, rn⟩ => [(99, .pointer (some ⟨b24, 0 + 64, none⟩)), (97, .pointer (some ⟨b23, 0 + 64, none⟩)), (94, .agg (nfl [(y, (ledC (m - bel n) (n - bel n) false x q).2)]).toArray), (93, .agg (nfl [(y, (ledC (m - bel n) (n - bel n) false x q).1)]).toArray), (92, Row.v (stepsN (m - bel n) (n - bel n) false x q).length r1), (11, .pointer (some ⟨b11, 0, none⟩)), (12, .pointer (some ⟨b12, 0, none⟩)), (23, .pointer (some ⟨b23, 0, none⟩)), (24, .pointer (some ⟨b24, 0, none⟩))]) (fun ⟨bq, rn⟩ => ([(b24, Obj.cells (nfl [(y, (ledC (m - bel n) (n - bel n) false x q).2)]).toArray 123 (0, 0)), (b23, Obj.cells (nfl [(y, (ledC (m - bel n) (n - bel n) false x q).1)]).toArray 123 (0, 0)), (b12, Obj.cells (arr8 (List.replicate 32 0)) 33 (0, 0)), (b11, Obj.cells (arr8 (List.replicate 32 0)) 33 (0, 0))] ++ Row.b 123 r1)) 7 #[true, true, true, false, false, true, false, true, false, false, false, false] ?_ (fun hmid15 => ?_)
        · -- state [0, 1, 2, 5, 7]
          rintro ⟨bq, rn⟩ _
          refine JA.branch [3, 6, 8] (by kernel_rfl) rfl ?_
          refine JAll.cons rfl ?_ ?_
          · -- 3
            refine JO.new rfl rfl rfl (.none rfl) (En.bs2N rfl rfl Tryd.underlying78 Tryd.sizeOf123 Tryd.zeroValue123) (fun b95 hb95 => ?_)
            obtain ⟨bq, rfl⟩ : ∃ b, b = b95 := ⟨_, rfl⟩
            exact JA.wk (hmid10 (bq, ⟨0, 0, #[]⟩) trivial)
          refine JAll.cons rfl ?_ ?_
          · -- 6
            refine JO.val rfl rfl rfl (.none rfl) (Ev.loadA (l := (nodeD ((y, (ledC (m - bel n) (n - bel n) false x q).1)).1 ((y, (ledC (m - bel n) (n - bel n) false x q).1)).2).1.map u8) rfl Tryd.underlying33 rfl Tryd.sizeOf33 (Rds.ntop (p := (y, (ledC (m - bel n) (n - bel n) false x q).1)) memK) (by rw [List.length_map]; exact (nodeD ((y, (ledC (m - bel n) (n - bel n) false x q).1)).1 ((y, (ledC (m - bel n) (n - bel n) false x q).1)).2).2)) ?_
            exact JA.wk (hmid11 (0, ⟨0, 0, #[]⟩) trivial)
          refine JAll.cons rfl ?_ JAll.nil
          refine JO.val rfl rfl rfl (.none rfl) (Ev.loadA (l := (nodeD ((y, (ledC (m - bel n) (n - bel n) false x q).2)).1 ((y, (ledC (m - bel n) (n - bel n) false x q).2)).2).1.map u8) rfl Tryd.underlying33 rfl Tryd.sizeOf33 (Rds.ntop (p := (y, (ledC (m - bel n) (n - bel n) false x q).2)) memK) (by rw [List.length_map]; exact (nodeD ((y, (ledC (m - bel n) (n - bel n) false x q).2)).1 ((y, (ledC (m - bel n) (n - bel n) false x q).2)).2).2)) ?_
          exact JA.wk (hmid12 (0, ⟨0, 0, #[]⟩) trivial)
        refine JA.mid (X := Nat × Row) (fun ⟨bq, rn⟩ => True) (fun ⟨bq, rn⟩ => [(99, .pointer (some ⟨b24, 0 + 64, none⟩)), (98, .agg (arr8 (nodeD y (ledC (m - bel n) (n - bel n) false x q).1).1)), (97, .pointer (some ⟨b23, 0 + 64, none⟩)), (93, .agg (nfl [(y, (ledC (m - bel n) (n - bel n) false x q).1)]).toArray), (92, Row.v (stepsN (m - bel n) (n - bel n) false x q).length r1), (11, .pointer (some ⟨b11, 0, none⟩)), (12, .pointer (some ⟨b12, 0, none⟩)), (23, .pointer (some ⟨b23, 0, none⟩)), (24, .pointer (some ⟨b24, 0, none⟩))]) (fun ⟨bq, rn⟩ => ([(b24, Obj.cells (nfl [(y, (ledC (m - bel n) (n - bel n) false x q).2)]).toArray 123 (0, 0)), (b23, Obj.cells (nfl [(y, (ledC (m - bel n) (n - bel n) false x q).1)]).toArray 123 (0, 0)), (b12, Obj.cells (arr8 (List.replicate 32 0)) 33 (0, 0)), (b11, Obj.cells (arr8 (List.replicate 32 0)) 33 (0, 0))] ++ Row.b 123 r1)) 7 #[true, true, false, false, false, true, true, true, false, false, false, false] ?_ (fun hmid16 => ?_)
        · -- state [0, 1, 5, 6, 7]
          rintro ⟨bq, rn⟩ _
          refine JA.branch [2, 8] (by kernel_rfl) rfl ?_
          refine JAll.cons rfl ?_ ?_
          · -- 2
            refine JO.val rfl rfl rfl (.none rfl) (Ev.loadB rfl memK Tryd.underlying123 rfl Tryd.sizeOf123 (nfl_size _)) ?_
            exact JA.wk (hmid11 (0, ⟨0, 0, #[]⟩) trivial)
          refine JAll.cons rfl ?_ JAll.nil
          refine JO.val rfl rfl rfl (.none rfl) (Ev.loadA (l := (nodeD ((y, (ledC (m - bel n) (n - bel n) false x q).2)).1 ((y, (ledC (m - bel n) (n - bel n) false x q).2)).2).1.map u8) rfl Tryd.underlying33 rfl Tryd.sizeOf33 (Rds.ntop (p := (y, (ledC (m - bel n) (n - bel n) false x q).2)) memK) (by rw [List.length_map]; exact (nodeD ((y, (ledC (m - bel n) (n - bel n) false x q).2)).1 ((y, (ledC (m - bel n) (n - bel n) false x q).2)).2).2)) ?_
          exact JA.wk (hmid13 (0, ⟨0, 0, #[]⟩) trivial)
        refine JA.mid (X := Nat × Row) (fun ⟨bq, rn⟩ => True) (fun ⟨bq, rn⟩ => [(100, .agg (arr8 (nodeD y (ledC (m - bel n) (n - bel n) false x q).2).1)), (99, .pointer (some ⟨b24, 0 + 64, none⟩)), (97, .pointer (some ⟨b23, 0 + 64, none⟩)), (93, .agg (nfl [(y, (ledC (m - bel n) (n - bel n) false x q).1)]).toArray), (92, Row.v (stepsN (m - bel n) (n - bel n) false x q).length r1), (11, .pointer (some ⟨b11, 0, none⟩)), (12, .pointer (some ⟨b12, 0, none⟩)), (23, .pointer (some ⟨b23, 0, none⟩)), (24, .pointer (some ⟨b24, 0, none⟩))]) (fun ⟨bq, rn⟩ => ([(b24, Obj.cells (nfl [(y, (ledC (m - bel n) (n - bel n) false x q).2)]).toArray 123 (0, 0)), (b23, Obj.cells (nfl [(y, (ledC (m - bel n) (n - bel n) false x q).1)]).toArray 123 (0, 0)), (b12, Obj.cells (arr8 (List.replicate 32 0)) 33 (0, 0)), (b11, Obj.cells (arr8 (List.replicate 32 0)) 33 (0, 0))] ++ Row.b 123 r1)) 7 #[true, true, false, false, false, true, false, true, true, false, false, false] ?_ (fun hmid17 => ?_)
        · -- state [0, 1, 5, 7, 8]
          rintro ⟨bq, rn⟩ _
          refine JA.branch [2, 6] (by kernel_rfl) rfl ?_
          refine JAll.cons rfl ?_ ?_
          · -- 2
            refine JO.val rfl rfl rfl (.none rfl) (Ev.loadB rfl memK Tryd.underlying123 rfl Tryd.sizeOf123 (nfl_size _)) ?_
            exact JA.wk (hmid12 (0, ⟨0, 0, #[]⟩) trivial)
          refine JAll.cons rfl ?_ JAll.nil
          refine JO.val rfl rfl rfl (.none rfl) (Ev.loadA (l := (nodeD ((y, (ledC (m - bel n) (n - bel n) false x q).1)).1 ((y, (ledC (m - bel n) (n - bel n) false x q).1)).2).1.map u8) rfl Tryd.underlying33 rfl Tryd.sizeOf33 (Rds.ntop (p := (y, (ledC (m - bel n) (n - bel n) false x q).1)) memK) (by rw [List.length_map]; exact (nodeD ((y, (ledC (m - bel n) (n - bel n) false x q).1)).1 ((y, (ledC (m - bel n) (n - bel n) false x q).1)).2).2)) ?_
          exact JA.wk (hmid13 (0, ⟨0, 0, #[]⟩) trivial)
        refine JA.mid (X := Nat × Row) (fun ⟨bq, rn⟩ => True) (fun ⟨bq, rn⟩ => [(99, .pointer (some ⟨b24, 0 + 64, none⟩)), (98, .agg (arr8 (nodeD y (ledC (m - bel n) (n - bel n) false x q).1).1)), (97, .pointer (some ⟨b23, 0 + 64, none⟩)), (94, .agg (nfl [(y, (ledC (m - bel n) (n - bel n) false x q).2)]).toArray), (92, Row.v (stepsN (m - bel n) (n - bel n) false x q).length r1), (11, .pointer (some ⟨b11, 0, none⟩)), (12, .pointer (some ⟨b12, 0, none⟩)), (23, .pointer (some ⟨b23, 0, none⟩)), (24, .pointer (some ⟨b24, 0, none⟩))]) (fun ⟨bq, rn⟩ => ([(b24, Obj.cells (nfl [(y, (ledC (m - bel n) (n - bel n) false x q).2)]).toArray 123 (0, 0)), (b23, Obj.cells (nfl [(y, (ledC (m - bel n) (n - bel n) false x q).1)]).toArray 123 (0, 0)), (b12, Obj.cells (arr8 (List.replicate 32 0)) 33 (0, 0)), (b11, Obj.cells (arr8 (List.replicate 32 0)) 33 (0, 0))] ++ Row.b 123 r1)) 7 #[true, false, true, false, false, true, true, true, false, false, false, false] ?_ (fun hmid18 => ?_)
        · -- state [0, 2, 5, 6, 7]
          rintro ⟨bq, rn⟩ _
          refine JA.branch [1, 8] (by kernel_rfl) rfl ?_
          refine JAll.cons rfl ?_ ?_
          · -- 1
            refine JO.val rfl rfl rfl (.none rfl) (Ev.loadB rfl memK Tryd.underlying123 rfl Tryd.sizeOf123 (nfl_size _)) ?_
            exact JA.wk (hmid11 (0, ⟨0, 0, #[]⟩) trivial)
          refine JAll.cons rfl ?_ JAll.nil
          refine JO.val rfl rfl rfl (.none rfl) (Ev.loadA (l := (nodeD ((y, (ledC (m - bel n) (n - bel n) false x q).2)).1 ((y, (ledC (m - bel n) (n - bel n) false x q).2)).2).1.map u8) rfl Tryd.underlying33 rfl Tryd.sizeOf33 (Rds.ntop (p := (y, (ledC (m - bel n) (n - bel n) false x q).2)) memK) (by rw [List.length_map]; exact (nodeD ((y, (ledC (m - bel n) (n - bel n) false x q).2)).1 ((y, (ledC (m - bel n) (n - bel n) false x q).2)).2).2)) ?_
          exact JA.wk (hmid14 (0, ⟨0, 0, #[]⟩) trivial)
        refine JA.mid (X := Nat × Row) (fun ⟨bq, rn⟩ => True) (fun ⟨bq, rn⟩ => [(100, .agg (arr8 (nodeD y (ledC (m - bel n) (n - bel n) false x q).2).1)), (99, .pointer (some ⟨b24, 0 + 64, none⟩)), (97, .pointer (some ⟨b23, 0 + 64, none⟩)), (94, .agg (nfl [(y, (ledC (m - bel n) (n - bel n) false x q).2)]).toArray), (92, Row.v (stepsN (m - bel n) (n - bel n) false x q).length r1), (11, .pointer (some ⟨b11, 0, none⟩)), (12, .pointer (some ⟨b12, 0, none⟩)), (23, .pointer (some ⟨b23, 0, none⟩)), (24, .pointer (some ⟨b24, 0, none⟩))]) (fun ⟨bq, rn⟩ => ([(b24, Obj.cells (nfl [(y, (ledC (m - bel n) (n - bel n) false x q).2)]).toArray 123 (0, 0)), (b23, Obj.cells (nfl [(y, (ledC (m - bel n) (n - bel n) false x q).1)]).toArray 123 (0, 0)), (b12, Obj.cells (arr8 (List.replicate 32 0)) 33 (0, 0)), (b11, Obj.cells (arr8 (List.replicate 32 0)) 33 (0, 0))] ++ Row.b 123 r1)) 7 #[true, false, true, false, false, true, false, true, true, false, false, false] ?_ (fun hmid19 => ?_)
        · -- state [0, 2, 5, 7, 8]
          rintro ⟨bq, rn⟩ _
          refine JA.branch [1, 6] (by kernel_rfl) rfl ?_
          refine JAll.cons rfl ?_ ?_
          · -- 1
            refine JO.val rfl rfl rfl (.none rfl) (Ev.loadB rfl memK Tryd.underlying123 rfl Tryd.sizeOf123 (nfl_size _)) ?_
            exact JA.wk (hmid12 (0, ⟨0, 0, #[]⟩) trivial)
          refine JAll.cons rfl ?_ JAll.nil
          refine JO.val rfl rfl rfl (.none rfl) (Ev.loadA (l := (nodeD ((y, (ledC (m - bel n) (n - bel n) false x q).1)).1 ((y, (ledC (m - bel n) (n - bel n) false x q).1)).2).1.map u8) rfl Tryd.underlying33 rfl Tryd.sizeOf33 (Rds.ntop (p := (y, (ledC (m - bel n) (n - bel n) false x q).1)) memK) (by rw [List.length_map]; exact (nodeD ((y, (ledC (m - bel n) (n - bel n) false x q).1)).1 ((y, (ledC (m - bel n) (n - bel n) false x q).1)).2).2)) ?_
          exact JA.wk (hmid14 (0, ⟨0, 0, #[]⟩) trivial)
        refine JA.mid (X := Nat × Row) (fun ⟨bq, rn⟩ => True) (fun ⟨bq, rn⟩ => [(100, .agg (arr8 (nodeD y (ledC (m - bel n) (n - bel n) false x q).2).1)), (99, .pointer (some ⟨b24, 0 + 64, none⟩)), (98, .agg (arr8 (nodeD y (ledC (m - bel n) (n - bel n) false x q).1).1)), (97, .pointer (some ⟨b23, 0 + 64, none⟩)), (92, Row.v (stepsN (m - bel n) (n - bel n) false x q).length r1), (11, .pointer (some ⟨b11, 0, none⟩)), (12, .pointer (some ⟨b12, 0, none⟩)), (23, .pointer (some ⟨b23, 0, none⟩)), (24, .pointer (some ⟨b24, 0, none⟩))]) (fun ⟨bq, rn⟩ => ([(b24, Obj.cells (nfl [(y, (ledC (m - bel n) (n - bel n) false x q).2)]).toArray 123 (0, 0)), (b23, Obj.cells (nfl [(y, (ledC (m - bel n) (n - bel n) false x q).1)]).toArray 123 (0, 0)), (b12, Obj.cells (arr8 (List.replicate 32 0)) 33 (0, 0)), (b11, Obj.cells (arr8 (List.replicate 32 0)) 33 (0, 0))] ++ Row.b 123 r1)) 7 #[true, false, false, false, false, true, true, true, true, false, false, false] ?_ (fun hmid20 => ?_)
        · -- state [0, 5, 6, 7, 8]
          rintro ⟨bq, rn⟩ _
          refine JA.branch [1, 2] (by kernel_rfl) rfl ?_
          refine JAll.cons rfl ?_ ?_
          · -- 1
            refine JO.val rfl rfl rfl (.none rfl) (Ev.loadB rfl memK Tryd.underlying123 rfl Tryd.sizeOf123 (nfl_size _)) ?_
            exact JA.wk (hmid13 (0, ⟨0, 0, #[]⟩) trivial)
          refine JAll.cons rfl ?_ JAll.nil
          refine JO.val rfl rfl rfl (.none rfl) (Ev.loadB rfl memK Tryd.underlying123 rfl Tryd.sizeOf123 (nfl_size _)) ?_
          exact JA.wk (hmid14 (0, ⟨0, 0, #[]⟩) trivial)
        refine JA.mid (X := Nat × Row) (fun ⟨bq, rn⟩ => True) (fun ⟨bq, rn⟩ => [(99, .pointer (some ⟨b24, 0 + 64, none⟩)), (97, .pointer (some ⟨b23, 0 + 64, none⟩)), (93, .agg (nfl [(y, (ledC (m - bel n) (n - bel n) false x q).1)]).toArray), (92, Row.v (stepsN (m - bel n) (n - bel n) false x q).length r1), (11, .pointer (some ⟨b11, 0, none⟩)), (12, .pointer (some ⟨b12, 0, none⟩)), (23, .pointer (some ⟨b23, 0, none⟩)), (24, .pointer (some ⟨b24, 0, none⟩))]) (fun ⟨bq, rn⟩ => ([(b24, Obj.cells (nfl [(y, (ledC (m - bel n) (n - bel n) false x q).2)]).toArray 123 (0, 0)), (b23, Obj.cells (nfl [(y, (ledC (m - bel n) (n - bel n) false x q).1)]).toArray 123 (0, 0)), (b12, Obj.cells (arr8 (List.replicate 32 0)) 33 (0, 0)), (b11, Obj.cells (arr8 (List.replicate 32 0)) 33 (0, 0))] ++ Row.b 123 r1)) 8 #[true, true, false, false, false, true, false, true, false, false, false, false] ?_ (fun hmid21 => ?_)
        · -- state [0, 1, 5, 7]
          rintro ⟨bq, rn⟩ _
          refine JA.branch [2, 6, 8] (by kernel_rfl) rfl ?_
          refine JAll.cons rfl ?_ ?_
          · -- 2
            refine JO.val rfl rfl rfl (.none rfl) (Ev.loadB rfl memK Tryd.underlying123 rfl Tryd.sizeOf123 (nfl_size _)) ?_
            exact JA.wk (hmid15 (0, ⟨0, 0, #[]⟩) trivial)
          refine JAll.cons rfl ?_ ?_
          · -- 6
            refine JO.val rfl rfl rfl (.none rfl) (Ev.loadA (l := (nodeD ((y, (ledC (m - bel n) (n - bel n) false x q).1)).1 ((y, (ledC (m - bel n) (n - bel n) false x q).1)).2).1.map u8) rfl Tryd.underlying33 rfl Tryd.sizeOf33 (Rds.ntop (p := (y, (ledC (m - bel n) (n - bel n) false x q).1)) memK) (by rw [List.length_map]; exact (nodeD ((y, (ledC (m - bel n) (n - bel n) false x q).1)).1 ((y, (ledC (m - bel n) (n - bel n) false x q).1)).2).2)) ?_
            exact JA.wk (hmid16 (0, ⟨0, 0, #[]⟩) trivial)
          refine JAll.cons rfl ?_ JAll.nil
          refine JO.val rfl rfl rfl (.none rfl) (Ev.loadA (l := (nodeD ((y, (ledC (m - bel n) (n - bel n) false x q).2)).1 ((y, (ledC (m - bel n) (n - bel n) false x q).2)).2).1.map u8) rfl Tryd.underlying33 rfl Tryd.sizeOf33 (Rds.ntop (p := (y, (ledC (m - bel n) (n - bel n) false x q).2)) memK) (by rw [List.length_map]; exact (nodeD ((y, (ledC (m - bel n) (n - bel n) false x q).2)).1 ((y, (ledC (m - bel n) (n - bel n) false x q).2)).2).2)) ?_
          exact JA.wk (hmid17 (0, ⟨0, 0, #[]⟩) trivial)
        refine JA.mid (X := Nat × Row) (fun ⟨bq, rn⟩ => True) (fun ⟨bq, rn⟩ => [(99, .pointer (some ⟨b24, 0 + 64, none⟩)), (97, .pointer (some ⟨b23, 0 + 64, none⟩)), (94, .agg (nfl [(y, (ledC (m - bel n) (n - bel n) false x q).2)]).toArray), (92, Row.v (stepsN (m - bel n) (n - bel n) false x q).length r1), (11, .pointer (some ⟨b11, 0, none⟩)), (12, .pointer (some ⟨b12, 0, none⟩)), (23, .pointer (some ⟨b23, 0, none⟩)), (24, .pointer (some ⟨b24, 0, none⟩))]) (fun ⟨bq, rn⟩ => ([(b24, Obj.cells (nfl [(y, (ledC (m - bel n) (n - bel n) false x q).2)]).toArray 123 (0, 0)), (b23, Obj.cells (nfl [(y, (ledC (m - bel n) (n - bel n) false x q).1)]).toArray 123 (0, 0)), (b12, Obj.cells (arr8 (List.replicate 32 0)) 33 (0, 0)), (b11, Obj.cells (arr8 (List.replicate 32 0)) 33 (0, 0))] ++ Row.b 123 r1)) 8 #[true, false, true, false, false, true, false, true, false, false, false, false] ?_ (fun hmid22 => ?_)
        · -- state [0, 2, 5, 7]
          rintro ⟨bq, rn⟩ _
          refine JA.branch [1, 6, 8] (by kernel_rfl) rfl ?_
          refine JAll.cons rfl ?_ ?_
          · -- 1
            refine JO.val rfl rfl rfl (.none rfl) (Ev.loadB rfl memK Tryd.underlying123 rfl Tryd.sizeOf123 (nfl_size _)) ?_
            exact JA.wk (hmid15 (0, ⟨0, 0, #[]⟩) trivial)
          refine JAll.cons rfl ?_ ?_
          · -- 6
            refine JO.val rfl rfl rfl (.none rfl) (Ev.loadA (l := (nodeD ((y, (ledC (m - bel n) (n - bel n) false x q).1)).1 ((y, (ledC (m - bel n) (n - bel n) false x q).1)).2).1.map u8) rfl Tryd.underlying33 rfl Tryd.sizeOf33 (Rds.ntop (p := (y, (ledC (m - bel n) (n - bel n) false x q).1)) memK) (by rw [List.length_map]; exact (nodeD ((y, (ledC (m - bel n) (n - bel n) false x q).1)).1 ((y, (ledC (m - bel n) (n - bel n) false x q).1)).2).2)) ?_
            exact JA.wk (hmid18 (0, ⟨0, 0, #[]⟩) trivial)
          refine JAll.cons rfl ?_ JAll.nil
          refine JO.val rfl rfl rfl (.none rfl) (Ev.loadA (l := (nodeD ((y, (ledC (m - bel n) (n - bel n) false x q).2)).1 ((y, (ledC (m - bel n) (n - bel n) false x q).2)).2).1.map u8) rfl Tryd.underlying33 rfl Tryd.sizeOf33 (Rds.ntop (p := (y, (ledC (m - bel n) (n - bel n) false x q).2)) memK) (by rw [List.length_map]; exact (nodeD ((y, (ledC (m - bel n) (n - bel n) false x q).2)).1 ((y, (ledC (m - bel n) (n - bel n) false x q).2)).2).2)) ?_
          exact JA.wk (hmid19 (0, ⟨0, 0, #[]⟩) trivial)
        refine JA.mid (X := Nat × Row) (fun ⟨bq, rn⟩ => True) (fun ⟨bq, rn⟩ => [(99, .pointer (some ⟨b24, 0 + 64, none⟩)), (98, .agg (arr8 (nodeD y (ledC (m - bel n) (n - bel n) false x q).1).1)), (97, .pointer (some ⟨b23, 0 + 64, none⟩)), (92, Row.v (stepsN (m - bel n) (n - bel n) false x q).length r1), (11, .pointer (some ⟨b11, 0, none⟩)), (12, .pointer (some ⟨b12, 0, none⟩)), (23, .pointer (some ⟨b23, 0, none⟩)), (24, .pointer (some ⟨b24, 0, none⟩))]) (fun ⟨bq, rn⟩ => ([(b24, Obj.cells (nfl [(y, (ledC (m - bel n) (n - bel n) false x q).2)]).toArray 123 (0, 0)), (b23, Obj.cells (nfl [(y, (ledC (m - bel n) (n - bel n) false x q).1)]).toArray 123 (0, 0)), (b12, Obj.cells (arr8 (List.replicate 32 0)) 33 (0, 0)), (b11, Obj.cells (arr8 (List.replicate 32 0)) 33 (0, 0))] ++ Row.b 123 r1)) 8 #[true, false, false, false, false, true, true, true, false, false, false, false] ?_ (fun hmid23 => ?_)
        · -- state [0, 5, 6, 7]
          rintro ⟨bq, rn⟩ _
          refine JA.branch [1, 2, 8] (by kernel_rfl) rfl ?_
          refine JAll.cons rfl ?_ ?_
          · -- 1
            refine JO.val rfl rfl rfl (.none rfl) (Ev.loadB rfl memK Tryd.underlying123 rfl Tryd.sizeOf123 (nfl_size _)) ?_
            exact JA.wk (hmid16 (0, ⟨0, 0, #[]⟩) trivial)
          refine JAll.cons rfl ?_ ?_
          · -- 2
            refine JO.val rfl rfl rfl (.none rfl) (Ev.loadB rfl memK Tryd.underlying123 rfl Tryd.sizeOf123 (nfl_size _)) ?_
            exact JA.wk (hmid18 (0, ⟨0, 0, #[]⟩) trivial)
          refine JAll.cons rfl ?_ JAll.nil
          refine JO.val rfl rfl rfl (.none rfl) (Ev.loadA (l := (nodeD ((y, (ledC (m - bel n) (n - bel n) false x q).2)).1 ((y, (ledC (m - bel n) (n - bel n) false x q).2)).2).1.map u8) rfl Tryd.underlying33 rfl Tryd.sizeOf33 (Rds.ntop (p := (y, (ledC (m - bel n) (n - bel n) false x q).2)) memK) (by rw [List.length_map]; exact (nodeD ((y, (ledC (m - bel n) (n - bel n) false x q).2)).1 ((y, (ledC (m - bel n) (n - bel n) false x q).2)).2).2)) ?_
          exact JA.wk (hmid20 (0, ⟨0, 0, #[]⟩) trivial)
        refine JA.mid (X := Nat × Row) (fun ⟨bq, rn⟩ => True) (fun ⟨bq, rn⟩ => [(100, .agg (arr8 (nodeD y (ledC (m - bel n) (n - bel n) false x q).2).1)), (99, .pointer (some ⟨b24, 0 + 64, none⟩)), (97, .pointer (some ⟨b23, 0 + 64, none⟩)), (92, Row.v (stepsN (m - bel n) (n - bel n) false x q).length r1), (11, .pointer (some ⟨b11, 0, none⟩)), (12, .pointer (some ⟨b12, 0, none⟩)), (23, .pointer (some ⟨b23, 0, none⟩)), (24, .pointer (some ⟨b24, 0, none⟩))]) (fun ⟨bq, rn⟩ => ([(b24, Obj.cells (nfl [(y, (ledC (m - bel n) (n - bel n) false x q).2)]).toArray 123 (0, 0)), (b23, Obj.cells (nfl [(y, (ledC (m - bel n) (n - bel n) false x q).1)]).toArray 123 (0, 0)), (b12, Obj.cells (arr8 (List.replicate 32 0)) 33 (0, 0)), (b11, Obj.cells (arr8 (List.replicate 32 0)) 33 (0, 0))] ++ Row.b 123 r1)) 8 #[true, false, false, false, false, true, false, true, true, false, false, false] ?_ (fun hmid24 => ?_)
        · -- state [0, 5, 7, 8]
          rintro ⟨bq, rn⟩ _
          refine JA.branch [1, 2, 6] (by kernel_rfl) rfl ?_
          refine JAll.cons rfl ?_ ?_
          · -- 1
            refine JO.val rfl rfl rfl (.none rfl) (Ev.loadB rfl memK Tryd.underlying123 rfl Tryd.sizeOf123 (nfl_size _)) ?_
            exact JA.wk (hmid17 (0, ⟨0, 0, #[]⟩) trivial)
          refine JAll.cons rfl ?_ ?_
          · -- 2
            refine JO.val rfl rfl rfl (.none rfl) (Ev.loadB rfl memK Tryd.underlying123 rfl Tryd.sizeOf123 (nfl_size _)) ?_
            exact JA.wk (hmid19 (0, ⟨0, 0, #[]⟩) trivial)
          refine JAll.cons rfl ?_ JAll.nil
          refine JO.val rfl rfl rfl (.none rfl) (Ev.loadA (l := (nodeD ((y, (ledC (m - bel n) (n - bel n) false x q).1)).1 ((y, (ledC (m - bel n) (n - bel n) false x q).1)).2).1.map u8) rfl Tryd.underlying33 rfl Tryd.sizeOf33 (Rds.ntop (p := (y, (ledC (m - bel n) (n - bel n) false x q).1)) memK) (by rw [List.length_map]; exact (nodeD ((y, (ledC (m - bel n) (n - bel n) false x q).1)).1 ((y, (ledC (m - bel n) (n - bel n) false x q).1)).2).2)) ?_
          exact JA.wk (hmid20 (0, ⟨0, 0, #[]⟩) trivial)
        refine JA.tkc 0 rfl (.none rfl) (fun _ => (Ev.move rfl)) ?_
        refine JA.tkc 5 rfl (.none rfl) (fun _ => (Ev.fld 64 rfl (fun _ _ => by kernel_rfl))) ?_
        refine JA.tkc 7 rfl (.none rfl) (fun _ => (Ev.fld 64 rfl (fun _ _ => by kernel_rfl))) ?_
        refine JA.branch [1, 2, 6, 8] (by kernel_rfl) rfl ?_
        refine JAll.cons rfl ?_ ?_
        · -- 1
          refine JO.val rfl rfl rfl (.none rfl) (Ev.loadB rfl memK Tryd.underlying123 rfl Tryd.sizeOf123 (nfl_size _)) ?_
          exact JA.wk (hmid21 (0, ⟨0, 0, #[]⟩) trivial)
        refine JAll.cons rfl ?_ ?_
        · -- 2
          refine JO.val rfl rfl rfl (.none rfl) (Ev.loadB rfl memK Tryd.underlying123 rfl Tryd.sizeOf123 (nfl_size _)) ?_
          exact JA.wk (hmid22 (0, ⟨0, 0, #[]⟩) trivial)
        refine JAll.cons rfl ?_ ?_
        · -- 6
          refine JO.val rfl rfl rfl (.none rfl) (Ev.loadA (l := (nodeD ((y, (ledC (m - bel n) (n - bel n) false x q).1)).1 ((y, (ledC (m - bel n) (n - bel n) false x q).1)).2).1.map u8) rfl Tryd.underlying33 rfl Tryd.sizeOf33 (Rds.ntop (p := (y, (ledC (m - bel n) (n - bel n) false x q).1)) memK) (by rw [List.length_map]; exact (nodeD ((y, (ledC (m - bel n) (n - bel n) false x q).1)).1 ((y, (ledC (m - bel n) (n - bel n) false x q).1)).2).2)) ?_
          exact JA.wk (hmid23 (0, ⟨0, 0, #[]⟩) trivial)
        refine JAll.cons rfl ?_ JAll.nil
        refine JO.val rfl rfl rfl (.none rfl) (Ev.loadA (l := (nodeD ((y, (ledC (m - bel n) (n - bel n) false x q).2)).1 ((y, (ledC (m - bel n) (n - bel n) false x q).2)).2).1.map u8) rfl Tryd.underlying33 rfl Tryd.sizeOf33 (Rds.ntop (p := (y, (ledC (m - bel n) (n - bel n) false x q).2)) memK) (by rw [List.length_map]; exact (nodeD ((y, (ledC (m - bel n) (n - bel n) false x q).2)).1 ((y, (ledC (m - bel n) (n - bel n) false x q).2)).2).2)) ?_
        exact JA.wk (hmid24 (0, ⟨0, 0, #[]⟩) trivial)
      rintro ⟨rn, hrn⟩
      refine JQ.thenN ?_
      refine JC.ret ?_
      refine JQ.end3 (H' := (Row.b 123 (some rn))) (.inl rfl) rfl (.tmp rfl) (.agg rfl memK Tryd.underlying33 rfl Tryd.sizeOf33 szK) (.agg rfl memK Tryd.underlying33 rfl Tryd.sizeOf33 szK) ?_ ?_
      · first | exact Sub.all | exact Sub.nil | exact Sub.of_cnt (fun a => by (try dsimp only); simp only [cntA]; omega)
      · first | exact ⟨none, by rw [stepsN_top he, ledC_top he]; rfl, rfl, by rw [stepsN_top he]; exact Row.ok0⟩ | exact ⟨none, by rw [stepsN_top he, ledC_top he]; simp only [Bool.false_eq_true, if_false]; rw [hhd]; rfl, rfl, by rw [stepsN_top he]; exact Row.ok0⟩ | exact ⟨some rn, by rw [stepsN_left hm1 (by omega) hl, ledC_left hm1 (by omega) hl, List.length_append]; rfl, rfl, by rw [stepsN_left hm1 (by omega) hl, List.length_append, nfl_append]; exact hrn⟩ | exact ⟨some rn, by rw [stepsN_right hm1 (by omega) hl, ledC_right hm1 (by omega) hl, List.length_append]; rfl, rfl, by rw [stepsN_right hm1 (by omega) hl, List.length_append, nfl_append]; exact hrn⟩
theorem fsteps_any (x : Dig) (m : Nat) (n : Nat) (fr : Bool) (oa : Option Addr) (cap : Nat) (ds : List Dig) (w : World) (hm1 : 1 ≤ m) (hm2 : m ≤ n) (hmx : n ≤ 1024) (hd : Dl w oa cap ds) (hst : ds.length = stepsC m n fr) (hk : KMem 1 w) (hf : FMem 0 w) :
    Calls Tryd.prog 43 #[.int .i64 (m : Int), .int .i64 (n : Int), .bool fr, .agg (arr8 x.1), .slice oa ds.length cap] w (Ret w (fun v H => ∃ r : Option Row, v = .tuple #[Row.v (stepsN m n fr x ds).length r, .agg (arr8 ((ledC m n fr x ds).1).1), .agg (arr8 ((ledC m n fr x ds).2).1)] ∧ H = Row.b 123 r ∧ Row.ok 96 (stepsN m n fr x ds).length (nfl (stepsN m n fr x ds)) r)) := by
  have key : ∀ (N : Nat) (x : Dig) (m : Nat) (n : Nat) (fr : Bool) (oa : Option Addr) (cap : Nat) (ds : List Dig) (w : World) (hm1 : 1 ≤ m) (hm2 : m ≤ n) (hmx : n ≤ 1024) (hd : Dl w oa cap ds) (hst : ds.length = stepsC m n fr) (hk : KMem 1 w) (hf : FMem 0 w), n = N → Calls Tryd.prog 43 #[.int .i64 (m : Int), .int .i64 (n : Int), .bool fr, .agg (arr8 x.1), .slice oa ds.length cap] w (Ret w (fun v H => ∃ r : Option Row, v = .tuple #[Row.v (stepsN m n fr x ds).length r, .agg (arr8 ((ledC m n fr x ds).1).1), .agg (arr8 ((ledC m n fr x ds).2).1)] ∧ H = Row.b 123 r ∧ Row.ok 96 (stepsN m n fr x ds).length (nfl (stepsN m n fr x ds)) r)) := by
    intro N
    induction N using Nat.strongRecOn with
    | _ N IH =>
      intro x m n fr oa cap ds w hm1 hm2 hmx hd hst hk hf hN
      exact fsteps_any_step N (fun x m n fr oa cap ds w hm1 hm2 hmx hd hst hk hf hlt => IH _ hlt x m n fr oa cap ds w hm1 hm2 hmx hd hst hk hf rfl) x m n fr oa cap ds w hm1 hm2 hmx hd hst hk hf hN
  exact key _ x m n fr oa cap ds w hm1 hm2 hmx hd hst hk hf rfl

end Go.Proofs.YtopaednfjjjnbaaDoor
