/-
  Consistency in the program: following and verifying; the law on roots.
-/
import Derived.Test.YtopaednfjjjnbaaDoorCon4Nm
namespace Go.Proofs.YtopaednfjjjnbaaDoor
open Go Go.RowKit
set_option maxRecDepth 100000

theorem Row.v_cells (n : Nat) (r : Option Row) : (Row.v n r).cells = #[Row.v n r] := by cases r <;> rfl
theorem Row.v_one (n : Nat) (r : Option Row) : (Row.v n r).oneCell' = true := by cases r <;> rfl
theorem foldB_succ {l : List (Tn × Dig)} {z : Dig × Dig} {k : Nat} {y : Tn × Dig} (h : l[k]? = some y) : (l.take (k + 1)).foldl stepB z = stepB ((l.take k).foldl stepB z) y := by
  rw [List.take_add_one, h, List.foldl_append]
  rfl

theorem other_any (t : Tn) (oa : Option Addr) (cap : Nat) (ds : List Dig) (w : World) (hd : Dl w oa cap ds) (hb : t.fm + t.n ≤ ds.length) (hk : t.k ≤ t.n) (hmx : ds.length ≤ 1100000) :
    Calls Tryd.prog 101 #[.agg (tcl t).toArray, .slice oa ds.length cap] w (Ret w (fun v _ => ∃ ob cb, v = .slice ob (otherD ds t).length cb ∧ ∀ w', Dl w' oa cap ds → Dl w' ob cb (otherD ds t))) := by
  refine enter (vs := [.agg (tcl t).toArray, .slice oa ds.length cap]) Tryd.func101 rfl Tryd.ntmps101 rfl ?_
  refine JC.seq ?_
  refine JC.region ?_
  refine JL.new rfl rfl rfl (.none rfl) (En.boxA rfl) (fun b2 hb2 => ?_)
  refine JL.asg ?_
  refine JL.nil ?_
  refine JQ.thenN ?_
  refine JC.seq ?_
  refine JC.seq ?_
  refine JC.region ?_
  refine JL.val rfl rfl rfl (.none rfl) (Ev.fld 3 rfl (fun _ _ => by kernel_rfl)) ?_
  refine JL.val rfl rfl rfl (.none rfl) (Ev.load1 rfl Tryd.underlying4 rfl (Rd.own memK rfl)) ?_
  refine JL.nil ?_
  refine JQ.thenN ?_
  refine JC.cond rfl (fun hrt => ?_) (fun hrt => ?_)
  · -- t6 True
    obtain ⟨ob, eob, hob⟩ := sub3_cut hd (l := t.fm) (k := t.fm + t.k) (m := cap) (by omega) (by omega) (by have := hd.le; omega) (Nat.le_refl _)
    have eo : (ds.drop t.fm).take (t.fm + t.k - t.fm) = otherD ds t := by unfold otherD; rw [if_pos hrt, Nat.add_sub_cancel_left]
    refine JC.seq ?_
    refine JC.region ?_
    refine JL.mv ?_
    refine JL.val rfl rfl rfl (.none rfl) (Ev.fld 0 rfl (fun _ _ => by kernel_rfl)) ?_
    refine JL.val rfl rfl rfl (.none rfl) (Ev.load1 rfl Tryd.underlying3 rfl (Rd.own memK rfl)) ?_
    refine JL.val rfl rfl rfl (.none rfl) (Ev.fld 0 rfl (fun _ _ => by kernel_rfl)) ?_
    refine JL.val rfl rfl rfl (.none rfl) (Ev.load1 rfl Tryd.underlying3 rfl (Rd.own memK rfl)) ?_
    refine JL.val rfl rfl rfl (.none rfl) (Ev.fld 2 rfl (fun _ _ => by kernel_rfl)) ?_
    refine JL.val rfl rfl rfl (.none rfl) (Ev.load1 rfl Tryd.underlying3 rfl (Rd.own memK rfl)) ?_
    refine JL.val rfl rfl rfl (.none rfl) (Ev.bin rfl rfl (add_i64 (by omega))) ?_
    refine JL.val rfl rfl rfl (.none rfl) (Ev.sliceLH rfl rfl rfl Tryd.underlying39 Tryd.sizeOf33 (l := t.fm) (h := t.fm + t.k) (by omega) (by omega) (by omega) (by have := hd.le; omega)) ?_
    refine JL.asg ?_
    refine JL.nil ?_
    refine JQ.thenN ?_
    refine JC.ret ?_
    refine JQ.thenR ?_
    refine JQ.end1 (H' := []) (.inl rfl) rfl (.tmp rfl) ?_ ?_
    · exact Sub.k
    · exact ⟨ob, _, by rw [eob, eo], fun w' h => eo ▸ hob w' h⟩
  · -- t6 False
    obtain ⟨ob, eob, hob⟩ := sub3_cut hd (l := t.fm + t.k) (k := t.fm + t.n) (m := cap) (by omega) (by omega) (by have := hd.le; omega) (Nat.le_refl _)
    have eo : (ds.drop (t.fm + t.k)).take (t.fm + t.n - (t.fm + t.k)) = otherD ds t := by unfold otherD; rw [hrt, show t.fm + t.n - (t.fm + t.k) = t.n - t.k by omega]; rfl
    refine JC.skip ?_
    refine JQ.thenN ?_
    refine JC.seq ?_
    refine JC.region ?_
    refine JL.mv ?_
    refine JL.val rfl rfl rfl (.none rfl) (Ev.fld 0 rfl (fun _ _ => by kernel_rfl)) ?_
    refine JL.val rfl rfl rfl (.none rfl) (Ev.load1 rfl Tryd.underlying3 rfl (Rd.own memK rfl)) ?_
    refine JL.val rfl rfl rfl (.none rfl) (Ev.fld 2 rfl (fun _ _ => by kernel_rfl)) ?_
    refine JL.val rfl rfl rfl (.none rfl) (Ev.load1 rfl Tryd.underlying3 rfl (Rd.own memK rfl)) ?_
    refine JL.val rfl rfl rfl (.none rfl) (Ev.bin rfl rfl (add_i64 (by omega))) ?_
    refine JL.val rfl rfl rfl (.none rfl) (Ev.fld 0 rfl (fun _ _ => by kernel_rfl)) ?_
    refine JL.val rfl rfl rfl (.none rfl) (Ev.load1 rfl Tryd.underlying3 rfl (Rd.own memK rfl)) ?_
    refine JL.val rfl rfl rfl (.none rfl) (Ev.fld 1 rfl (fun _ _ => by kernel_rfl)) ?_
    refine JL.val rfl rfl rfl (.none rfl) (Ev.load1 rfl Tryd.underlying3 rfl (Rd.own memK rfl)) ?_
    refine JL.val rfl rfl rfl (.none rfl) (Ev.bin rfl rfl (add_i64 (by omega))) ?_
    refine JL.val rfl rfl rfl (.none rfl) (Ev.sliceLH rfl rfl rfl Tryd.underlying39 Tryd.sizeOf33 (l := t.fm + t.k) (h := t.fm + t.n) (by omega) (by omega) (by omega) (by have := hd.le; omega)) ?_
    refine JL.asg ?_
    refine JL.nil ?_
    refine JQ.thenN ?_
    refine JC.ret ?_
    refine JQ.end1 (H' := []) (.inl rfl) rfl (.tmp rfl) ?_ ?_
    · exact Sub.k
    · exact ⟨ob, _, by rw [eob, eo], fun w' h => eo ▸ hob w' h⟩

theorem cFollow_any (x : Dig) (i n : Int) (hib : -9223372036854775808 ≤ i ∧ i ≤ 9223372036854775807) (hnb : -9223372036854775808 ≤ n ∧ n ≤ 9223372036854775807) (oa : Option Addr) (cap : Nat) (ds : List Dig) (w : World) (hd : Dl w oa cap ds) (hk : KMem 1 w) (hf : FMem 0 w) :
    Calls Tryd.prog 105 #[.int .i64 i, .int .i64 n, .agg (arr8 x.1), .slice oa ds.length cap] w (Ret w (fun v _ => v = .tuple #[.agg (arr8 (fcV x i n ds).1.1), .agg (arr8 (fcV x i n ds).2.1), .int .i64 (fcE i n ds)])) := by
  refine enterM (vs := [.int .i64 i, .int .i64 n, .agg (arr8 x.1), .slice oa ds.length cap]) Tryd.func105 rfl Tryd.ntmps105 rfl ?_
  refine JC.seq ?_
  refine JC.region ?_
  refine JL.new rfl rfl rfl (.none rfl) (En.boxA rfl) (fun b6 hb6 => ?_)
  refine JL.new rfl rfl rfl (.none rfl) (En.box1 rfl rfl) (fun b7 hb7 => ?_)
  refine JL.new rfl rfl rfl (.none rfl) (En.allocZ (cs := arr8 (List.replicate 32 0)) Tryd.zeroValue33 rfl) (fun b8 hb8 => ?_)
  refine JL.new rfl rfl rfl (.none rfl) (En.allocZ (cs := arr8 (List.replicate 32 0)) Tryd.zeroValue33 rfl) (fun b9 hb9 => ?_)
  refine JL.asg ?_
  refine JL.nil ?_
  refine JQ.thenN ?_
  refine JC.seq ?_
  refine JC.region ?_
  refine JL.mv ?_
  refine JL.mv ?_
  refine JL.callV rfl (.none rfl) rfl Tryd.call131 (fun w1 hw1 => cProofLen_any i n hib hnb w1) ?_
  refine JL.mv ?_
  refine JL.val rfl rfl rfl (.none rfl) (Ev.ex0 rfl) ?_
  refine JL.val rfl rfl rfl (.none rfl) (Ev.ex1 rfl) ?_
  refine JL.asg ?_
  refine JL.asg ?_
  refine JL.nil ?_
  refine JQ.thenN ?_
  refine JC.seq ?_
  refine JC.seq ?_
  refine JC.region ?_
  refine JL.mv ?_
  refine JL.val rfl rfl rfl (.none rfl) (Ev.bin rfl rfl neq_int) ?_
  refine JL.nil ?_
  refine JQ.thenN ?_
  refine JC.cond rfl (fun hc1 => ?_) (fun hc1 => ?_)
  · -- t26 True
    have hbad : badC i n := Classical.byContradiction fun h => by rw [pcE_ok h] at hc1; simp at hc1
    refine JC.seq ?_
    refine JC.cut (X := Unit) (fun _ => [(8, .pointer (some ⟨b8, 0, none⟩)), (9, .pointer (some ⟨b9, 0, none⟩)), (10, .int .i64 (pcE i n))]) (fun _ => [(b9, Obj.cells (arr8 (List.replicate 32 0)) 33 (0, 0)), (b8, Obj.cells (arr8 (List.replicate 32 0)) 33 (0, 0))]) ?_ ?_
    · refine JC.regionA (by kernel_rfl) ?_
      refine JA.tkc 2 rfl (.none rfl) (fun _ => (Ev.move rfl)) ?_
      refine JA.branch [0, 1] (by kernel_rfl) rfl ?_
      refine JAll.cons rfl ?_ ?_
      · -- 0
        refine JO.val rfl rfl rfl (.none rfl) (Ev.lB Tryd.underlying33 Tryd.sizeOf33) ?_
        refine JA.branch [1, 3] (by kernel_rfl) rfl ?_
        refine JAll.cons rfl ?_ ?_
        · -- 1
          refine JO.val rfl rfl rfl (.none rfl) (Ev.lB Tryd.underlying33 Tryd.sizeOf33) ?_
          refine JA.one 3 ?_
          refine JO.sto rfl rfl (.none rfl) (Es.sA Tryd.sizeOf33) ?_
          refine JA.one 4 ?_
          refine JO.sto rfl rfl (.none rfl) (Es.sA Tryd.sizeOf33) ?_
          refine JA.tkc 5 rfl (.none rfl) (fun _ => (Ev.assign rfl)) ?_
          refine JA.done (by kernel_rfl) ?_
          refine JQ.cutN () ?_ ?_
          · exact Keeps.k
          · exact Sub.k
        refine JAll.cons rfl ?_ JAll.nil
        refine JO.sto rfl rfl (.none rfl) (Es.sA Tryd.sizeOf33) ?_
        refine JA.one 1 ?_
        refine JO.val rfl rfl rfl (.none rfl) (Ev.lB Tryd.underlying33 Tryd.sizeOf33) ?_
        refine JA.one 4 ?_
        refine JO.sto rfl rfl (.none rfl) (Es.sA Tryd.sizeOf33) ?_
        refine JA.tkc 5 rfl (.none rfl) (fun _ => (Ev.assign rfl)) ?_
        refine JA.done (by kernel_rfl) ?_
        refine JQ.cutN () ?_ ?_
        · exact Keeps.k
        · exact Sub.k
      refine JAll.cons rfl ?_ JAll.nil
      refine JO.val rfl rfl rfl (.none rfl) (Ev.lB Tryd.underlying33 Tryd.sizeOf33) ?_
      refine JA.one 0 ?_
      refine JO.val rfl rfl rfl (.none rfl) (Ev.lB Tryd.underlying33 Tryd.sizeOf33) ?_
      refine JA.one 3 ?_
      refine JO.sto rfl rfl (.none rfl) (Es.sA Tryd.sizeOf33) ?_
      refine JA.one 4 ?_
      refine JO.sto rfl rfl (.none rfl) (Es.sA Tryd.sizeOf33) ?_
      refine JA.tkc 5 rfl (.none rfl) (fun _ => (Ev.assign rfl)) ?_
      refine JA.done (by kernel_rfl) ?_
      refine JQ.cutN () ?_ ?_
      · exact Keeps.k
      · exact Sub.k
    rintro _
    refine JQ.thenN ?_
    refine JC.ret ?_
    refine JQ.thenR ?_
    refine JQ.endM0s (H' := []) (.inl rfl) (by exact Sub.k) (res3 rfl (.agg rfl memK Tryd.underlying33 rfl Tryd.sizeOf33 szK) (.agg rfl memK Tryd.underlying33 rfl Tryd.sizeOf33 szK) (.tmp rfl)) ?_
    · first | (rw [fcV_bad hbad, fcE_bad hbad, pcE_bad hbad]; rfl) | (rw [fcV_ne hok hne, fcE_ne hok hne]; rfl) | rw [fcV_ok hok heq, fcE_ok hok heq, e]
  · -- t26 False
    have hok : ¬ badC i n := fun h => by rw [pcE_bad h] at hc1; simp at hc1
    have hbd := hok
    unfold badC at hbd
    obtain ⟨I, rfl⟩ : ∃ m : Nat, i = (m : Int) := ⟨i.toNat, by omega⟩
    obtain ⟨N, rfl⟩ : ∃ m : Nat, n = (m : Int) := ⟨n.toNat, by omega⟩
    have hin : 1 ≤ I ∧ I ≤ N ∧ N ≤ 1024 := by omega
    have hst := down_steps N I N 0 true (Nat.le_refl _) hin.1 hin.2.1
    have hdl := down_len (fm := 0) hin.1 hin.2.1
    refine JC.skip ?_
    refine JQ.thenN ?_
    refine JC.seq ?_
    refine JC.seq ?_
    refine JC.region ?_
    refine JL.val rfl rfl rfl (.none rfl) (Ev.load1 rfl Tryd.underlying39 rfl (Rd.own memK rfl)) ?_
    refine JL.val rfl rfl rfl (.none rfl) (Ev.lenS rfl Tryd.underlying39) ?_
    refine JL.mv ?_
    refine JL.val rfl rfl rfl (.none rfl) (Ev.bin rfl rfl neq_int) ?_
    refine JL.nil ?_
    refine JQ.thenN ?_
    refine JC.cond rfl (fun hc2 => ?_) (fun hc2 => ?_)
    · -- t33 True
      have hne : ds.length ≠ stepsC I N true := fun h => by rw [pcV_ok hok, ← h] at hc2; simp at hc2
      refine JC.seq ?_
      refine JC.cut (X := Unit) (fun _ => [(8, .pointer (some ⟨b8, 0, none⟩)), (9, .pointer (some ⟨b9, 0, none⟩)), (10, .int .i64 290)]) (fun _ => [(b9, Obj.cells (arr8 (List.replicate 32 0)) 33 (0, 0)), (b8, Obj.cells (arr8 (List.replicate 32 0)) 33 (0, 0))]) ?_ ?_
      · refine JC.regionA (by kernel_rfl) ?_
        refine JA.branch [0, 1] (by kernel_rfl) rfl ?_
        refine JAll.cons rfl ?_ ?_
        · -- 0
          refine JO.val rfl rfl rfl (.none rfl) (Ev.lB Tryd.underlying33 Tryd.sizeOf33) ?_
          refine JA.branch [1, 2] (by kernel_rfl) rfl ?_
          refine JAll.cons rfl ?_ ?_
          · -- 1
            refine JO.val rfl rfl rfl (.none rfl) (Ev.lB Tryd.underlying33 Tryd.sizeOf33) ?_
            refine JA.one 2 ?_
            refine JO.sto rfl rfl (.none rfl) (Es.sA Tryd.sizeOf33) ?_
            refine JA.one 3 ?_
            refine JO.sto rfl rfl (.none rfl) (Es.sA Tryd.sizeOf33) ?_
            refine JA.tkc 4 rfl (.none rfl) (fun _ => (Ev.assign rfl)) ?_
            refine JA.done (by kernel_rfl) ?_
            refine JQ.cutN () ?_ ?_
            · exact Keeps.k
            · exact Sub.k
          refine JAll.cons rfl ?_ JAll.nil
          refine JO.sto rfl rfl (.none rfl) (Es.sA Tryd.sizeOf33) ?_
          refine JA.one 1 ?_
          refine JO.val rfl rfl rfl (.none rfl) (Ev.lB Tryd.underlying33 Tryd.sizeOf33) ?_
          refine JA.one 3 ?_
          refine JO.sto rfl rfl (.none rfl) (Es.sA Tryd.sizeOf33) ?_
          refine JA.tkc 4 rfl (.none rfl) (fun _ => (Ev.assign rfl)) ?_
          refine JA.done (by kernel_rfl) ?_
          refine JQ.cutN () ?_ ?_
          · exact Keeps.k
          · exact Sub.k
        refine JAll.cons rfl ?_ JAll.nil
        refine JO.val rfl rfl rfl (.none rfl) (Ev.lB Tryd.underlying33 Tryd.sizeOf33) ?_
        refine JA.one 0 ?_
        refine JO.val rfl rfl rfl (.none rfl) (Ev.lB Tryd.underlying33 Tryd.sizeOf33) ?_
        refine JA.one 2 ?_
        refine JO.sto rfl rfl (.none rfl) (Es.sA Tryd.sizeOf33) ?_
        refine JA.one 3 ?_
        refine JO.sto rfl rfl (.none rfl) (Es.sA Tryd.sizeOf33) ?_
        refine JA.tkc 4 rfl (.none rfl) (fun _ => (Ev.assign rfl)) ?_
        refine JA.done (by kernel_rfl) ?_
        refine JQ.cutN () ?_ ?_
        · exact Keeps.k
        · exact Sub.k
      rintro _
      refine JQ.thenN ?_
      refine JC.ret ?_
      refine JQ.thenR ?_
      refine JQ.endM0s (H' := []) (.inl rfl) (by exact Sub.k) (res3 rfl (.agg rfl memK Tryd.underlying33 rfl Tryd.sizeOf33 szK) (.agg rfl memK Tryd.underlying33 rfl Tryd.sizeOf33 szK) (.tmp rfl)) ?_
      · first | (rw [fcV_bad hbad, fcE_bad hbad, pcE_bad hbad]; rfl) | (rw [fcV_ne hok hne, fcE_ne hok hne]; rfl) | rw [fcV_ok hok heq, fcE_ok hok heq, e]
    · -- t33 False
      have heq : ds.length = stepsC I N true := Classical.byContradiction fun h => by rw [pcV_ok hok] at hc2; have := of_decide_eq_false hc2; omega
      refine JC.skip ?_
      refine JQ.thenN ?_
      refine JC.seq ?_
      refine JC.region ?_
      refine JL.mv ?_
      refine JL.mv ?_
      refine JL.callN rfl (.none rfl) rfl Tryd.call99 (fun w1 hw1 => down_any I N w1 hin.1 hin.2.1 hin.2.2) ?_
      rintro _ _ ⟨r1, rfl, rfl, hr1⟩
      refine JL.mv ?_
      refine JL.val rfl rfl rfl (.none rfl) (Ev.ex0 rfl) ?_
      refine JL.val rfl rfl rfl (.none rfl) (Ev.ex1 rfl) ?_
      refine JL.val rfl rfl rfl (.none rfl) (Ev.ex2 rfl) ?_
      refine JL.new rfl rfl rfl (.none rfl) (En.allocZ (cs := #[.slice none 0 0]) Tryd.zeroValue147 rfl) (fun b12 hb12 => ?_)
      refine JL.sto rfl rfl (.none rfl) (Es.store0 rfl rfl Tryd.sizeOf147 (Row.v_cells _ _) (Row.v_one _ _) Upd.k) ?_
      refine JL.asg ?_
      refine JL.asg ?_
      refine JL.nil ?_
      refine JQ.thenN ?_
      refine JC.seq ?_
      refine JC.seq ?_
      refine JC.region ?_
      refine JL.mv ?_
      refine JL.val rfl rfl rfl (.none rfl) (Ev.not rfl) ?_
      refine JL.nil ?_
      refine JQ.thenN ?_
      refine JC.cond rfl (fun hfr => ?_) (fun hfr => ?_)
      · -- t44 True
        have hfr : downF I N true = false := by simpa using hfr
        rw [hfr] at hst
        simp only [Bool.false_eq_true, if_false] at hst
        obtain ⟨z0, ys, rfl⟩ : ∃ z0 ys, ds = z0 :: ys := by cases ds with | nil => (simp only [List.length_nil] at heq; omega) | cons a l => exact ⟨a, l, rfl⟩
        have hql : ys.length = (downW I N 0).length := by have : (z0 :: ys).length = ys.length + 1 := rfl; omega
        obtain ⟨a0, rfl⟩ := Cs.get_some hd (by simp)
        obtain ⟨op, eop, hop⟩ := Dl.drop hd (k := 1) (by simp)
        have hqd : Dl w op (cap - 1) ys := hop w hd
        obtain ⟨cp, hcp⟩ : ∃ c, c = cap - 1 := ⟨_, rfl⟩
        rw [← hcp] at eop hqd
        have hfold : ledC I N true x (z0 :: ys) = ((downW I N 0).reverse.zip ys).foldl stepB (z0, z0) := by have h := down_led N I N 0 true x z0 ys (Nat.le_refl _) hin.1 hin.2.1 hql; rw [hfr] at h; exact h
        refine JC.cut (X := Unit) (fun _ => [(0, .int .i64 (I : Int)), (1, .int .i64 (N : Int)), (10, .int .i64 (pcE (I : Int) (N : Int))), (6, .pointer (some ⟨b6, 0, none⟩)), (7, .pointer (some ⟨b7, 0, none⟩)), (8, .pointer (some ⟨b8, 0, none⟩)), (9, .pointer (some ⟨b9, 0, none⟩)), (12, .pointer (some ⟨b12, 0, none⟩)), (13, .bool (downF I N true))]) (fun _ => [(b6, Obj.cells (arr8 z0.1) 33 (0, 0)), (b12, Obj.cells #[Row.v (downW I N 0).length r1] 147 (0, 0)), (b9, Obj.cells (arr8 (List.replicate 32 0)) 33 (0, 0)), (b8, Obj.cells (arr8 (List.replicate 32 0)) 33 (0, 0)), (b7, Obj.cells #[.slice op ys.length cp] 39 (0, 0))] ++ Row.b 154 r1) ?_ ?_
        · refine JC.regionA (by kernel_rfl) ?_
          refine JA.branch [0, 3] (by kernel_rfl) rfl ?_
          refine JAll.cons rfl ?_ ?_
          · -- 0
            refine JO.val rfl rfl rfl (.none rfl) (Ev.load1 rfl Tryd.underlying39 rfl (Rd.own memK rfl)) ?_
            refine JA.tkc 1 rfl (.none rfl) (fun _ => (Ev.idxS (k := 0) rfl rfl Tryd.underlying39 Tryd.sizeOf33 rfl (by simp))) ?_
            refine JA.branch [2, 3] (by kernel_rfl) rfl ?_
            refine JAll.cons rfl ?_ ?_
            · -- 2
              refine JO.val rfl rfl rfl (.none rfl) (Ev.loadD rfl Tryd.underlying33 rfl Tryd.sizeOf33 (Rds.old ((hd.mem a0 rfl).atD (k := 0) (d := z0) rfl))) ?_
              refine JA.branch [3, 5] (by kernel_rfl) rfl ?_
              refine JAll.cons rfl ?_ ?_
              · -- 3
                refine JO.val rfl rfl rfl (.none rfl) (Ev.load1 rfl Tryd.underlying39 rfl (Rd.own memK rfl)) ?_
                refine JA.tkc 4 rfl (.none rfl) (fun _ => (Ev.cast (v' := .slice op ys.length cp) (eop) (Ev.sliceLo rfl rfl Tryd.underlying39 Tryd.sizeOf33 (l := 1) rfl (by simp)))) ?_
                refine JA.one 5 ?_
                refine JO.sto rfl rfl (.none rfl) (Es.sA Tryd.sizeOf33) ?_
                refine JA.one 6 ?_
                refine JO.sto rfl rfl (.none rfl) (Es.store0 rfl rfl Tryd.sizeOf39 rfl rfl Upd.k) ?_
                refine JA.done (by kernel_rfl) ?_
                refine JQ.cutN () ?_ ?_
                · exact Keeps.k
                · exact Sub.k
              refine JAll.cons rfl ?_ JAll.nil
              refine JO.sto rfl rfl (.none rfl) (Es.sA Tryd.sizeOf33) ?_
              refine JA.one 3 ?_
              refine JO.val rfl rfl rfl (.none rfl) (Ev.load1 rfl Tryd.underlying39 rfl (Rd.own memK rfl)) ?_
              refine JA.tkc 4 rfl (.none rfl) (fun _ => (Ev.cast (v' := .slice op ys.length cp) (eop) (Ev.sliceLo rfl rfl Tryd.underlying39 Tryd.sizeOf33 (l := 1) rfl (by simp)))) ?_
              refine JA.one 6 ?_
              refine JO.sto rfl rfl (.none rfl) (Es.store0 rfl rfl Tryd.sizeOf39 rfl rfl Upd.k) ?_
              refine JA.done (by kernel_rfl) ?_
              refine JQ.cutN () ?_ ?_
              · exact Keeps.k
              · exact Sub.k
            refine JAll.cons rfl ?_ JAll.nil
            refine JO.val rfl rfl rfl (.none rfl) (Ev.load1 rfl Tryd.underlying39 rfl (Rd.own memK rfl)) ?_
            refine JA.tkc 4 rfl (.none rfl) (fun _ => (Ev.cast (v' := .slice op ys.length cp) (eop) (Ev.sliceLo rfl rfl Tryd.underlying39 Tryd.sizeOf33 (l := 1) rfl (by simp)))) ?_
            refine JA.one 2 ?_
            refine JO.val rfl rfl rfl (.none rfl) (Ev.loadD rfl Tryd.underlying33 rfl Tryd.sizeOf33 (Rds.old ((hd.mem a0 rfl).atD (k := 0) (d := z0) rfl))) ?_
            refine JA.one 5 ?_
            refine JO.sto rfl rfl (.none rfl) (Es.sA Tryd.sizeOf33) ?_
            refine JA.one 6 ?_
            refine JO.sto rfl rfl (.none rfl) (Es.store0 rfl rfl Tryd.sizeOf39 rfl rfl Upd.k) ?_
            refine JA.done (by kernel_rfl) ?_
            refine JQ.cutN () ?_ ?_
            · exact Keeps.k
            · exact Sub.k
          refine JAll.cons rfl ?_ JAll.nil
          refine JO.val rfl rfl rfl (.none rfl) (Ev.load1 rfl Tryd.underlying39 rfl (Rd.own memK rfl)) ?_
          refine JA.tkc 4 rfl (.none rfl) (fun _ => (Ev.cast (v' := .slice op ys.length cp) (eop) (Ev.sliceLo rfl rfl Tryd.underlying39 Tryd.sizeOf33 (l := 1) rfl (by simp)))) ?_
          refine JA.one 0 ?_
          refine JO.val rfl rfl rfl (.none rfl) (Ev.load1 rfl Tryd.underlying39 rfl (Rd.own memK rfl)) ?_
          refine JA.tkc 1 rfl (.none rfl) (fun _ => (Ev.idxS (k := 0) rfl rfl Tryd.underlying39 Tryd.sizeOf33 rfl (by simp))) ?_
          refine JA.one 2 ?_
          refine JO.val rfl rfl rfl (.none rfl) (Ev.loadD rfl Tryd.underlying33 rfl Tryd.sizeOf33 (Rds.old ((hd.mem a0 rfl).atD (k := 0) (d := z0) rfl))) ?_
          refine JA.one 5 ?_
          refine JO.sto rfl rfl (.none rfl) (Es.sA Tryd.sizeOf33) ?_
          refine JA.one 6 ?_
          refine JO.sto rfl rfl (.none rfl) (Es.store0 rfl rfl Tryd.sizeOf39 rfl rfl Upd.k) ?_
          refine JA.done (by kernel_rfl) ?_
          refine JQ.cutN () ?_ ?_
          · exact Keeps.k
          · exact Sub.k
        rintro _
        refine JQ.thenN ?_
        refine JC.seq ?_
        refine JC.region ?_
        refine JL.val rfl rfl rfl (.none rfl) (Ev.lB Tryd.underlying33 Tryd.sizeOf33) ?_
        refine JL.val rfl rfl rfl (.none rfl) (Ev.lB Tryd.underlying33 Tryd.sizeOf33) ?_
        refine JL.val rfl rfl rfl (.none rfl) (Ev.buS rfl rfl Tryd.underlying189 (fun _ => by kernel_rfl) Tryd.zeroValue189 rfl) ?_
        refine JL.new rfl rfl rfl (.none rfl) (En.allocZ (cs := (fp [(zeroD, zeroD)]).toArray) Tryd.zeroValue189 rfl) (fun b15 hb15 => ?_)
        refine JL.sto rfl rfl (.none rfl) (Es.storeA rfl rfl Tryd.sizeOf189 Upd.k (fp1_size _) (fp1_size _) (fp1_one _)) ?_
        refine JL.nil ?_
        refine JQ.thenN ?_
        refine JC.seq ?_
        refine JC.seq ?_
        refine JC.region ?_
        refine JL.val rfl rfl rfl (.none rfl) (Ev.load1 (v := Row.v (downW I N 0).length r1) rfl Tryd.underlying147 rfl (Rd.own memK rfl)) ?_
        refine JL.callN rfl (.none rfl) rfl Tryd.call100 (fun w1 hw1 => backT_any _ w1 (Row.v_cells _ _)) ?_
        rintro _ _ ⟨bb, rfl, rfl⟩
        refine JL.nil ?_
        refine JQ.thenN ?_
        refine JC.block ?_
        refine JC.rangeH (ps := [55, 56]) (X := Dig × Dig) (Y := Nat) ((downW I N 0).length) (fun p E => (b15, Obj.cells (fp [p]).toArray 189 (0, 0)) :: (b12, Obj.cells #[Row.v (downW I N 0).length r1] 147 (0, 0)) :: (b9, Obj.cells (arr8 (List.replicate 32 0)) 33 (0, 0)) :: (b8, Obj.cells (arr8 (List.replicate 32 0)) 33 (0, 0)) :: (b7, Obj.cells #[.slice op ys.length cp] 39 (0, 0)) :: E) (fun k p => p = (((downW I N 0).reverse.zip ys).take k).foldl stepB (z0, z0)) (fun c p => False) ((fun k vs _ => ∃ t : Tn, (downW I N 0)[(downW I N 0).length - 1 - k]? = some t ∧ vs = [.int .i64 (((downW I N 0).length : Int) - 1 - (k : Int)), .agg (tcl t).toArray])) (((bb, Obj.cells #[Row.v (downW I N 0).length r1] 147 (0, 0)) :: Row.b 154 r1)) (z0, z0) (fun k p vs y => [(7, .pointer (some ⟨b7, 0, none⟩)), (8, .pointer (some ⟨b8, 0, none⟩)), (9, .pointer (some ⟨b9, 0, none⟩)), (12, .pointer (some ⟨b12, 0, none⟩)), (15, .pointer (some ⟨b15, 0, none⟩)), (16, (vs.headD undef)), (17, .pointer (some ⟨y, 0, none⟩)), (55, (vs.headD undef)), (56, ((vs.drop 1).headD undef))]) (fun p vs y E => (y, Obj.cells (((vs.drop 1).headD undef)).cells 154 (0, 0)) :: (b15, Obj.cells (fp [p]).toArray 189 (0, 0)) :: (b12, Obj.cells #[Row.v (downW I N 0).length r1] 147 (0, 0)) :: (b9, Obj.cells (arr8 (List.replicate 32 0)) 33 (0, 0)) :: (b8, Obj.cells (arr8 (List.replicate 32 0)) 33 (0, 0)) :: (b7, Obj.cells #[.slice op ys.length cp] 39 (0, 0)) :: E) (fun _ _ => rfl) (fun _ _ _ _ => rfl) rfl Tryd.call128 ?_ ?_ rfl (fun _ _ _ h => by obtain ⟨_, _, rfl⟩ := h; rfl) (fun X A Inv Z l x0 w1 hi hw hy => backTI_any (downW I N 0) r1 bb (by omega) X A Inv Z l x0 w w1 hi hw hy hr1) ?_ ?_ ?_ ?_
        · exact Sub.of_cnt (fun a => by (try dsimp only); simp only [cntA]; omega)
        · rfl
        · rintro lr k p vs O E hkN hp ⟨t, ht, rfl⟩ hO
          refine JC.seq ?_
          refine JC.region ?_
          refine JL.asg ?_
          refine JL.nil ?_
          refine JQ.thenN ?_
          refine JC.region ?_
          refine JL.new rfl rfl rfl (.none rfl) (En.allocZ (cs := #[.int .i64 0, .int .i64 0, .int .i64 0, .bool false]) Tryd.zeroValue154 rfl) (fun b17 hb17 => ?_)
          refine JL.sto rfl rfl (.none rfl) (Es.storeA rfl rfl Tryd.sizeOf154 Upd.k szK szK (fun u hu => ft_one [t] u (by simpa [ft] using hu))) ?_
          refine JL.nil ?_
          refine JQ.asgH b17 ?_ ?_
          · exact Keeps.k
          · exact Sub.k
        · rintro lr k p vs y O E hkN hp ⟨t, ht, rfl⟩ hO
          change JC _ [(7, .pointer (some ⟨b7, 0, none⟩)), (8, .pointer (some ⟨b8, 0, none⟩)), (9, .pointer (some ⟨b9, 0, none⟩)), (12, .pointer (some ⟨b12, 0, none⟩)), (15, .pointer (some ⟨b15, 0, none⟩)), (16, (.int .i64 (((downW I N 0).length : Int) - 1 - (k : Int)))), (17, .pointer (some ⟨y, 0, none⟩)), (55, (.int .i64 (((downW I N 0).length : Int) - 1 - (k : Int)))), (56, (Value.agg (tcl t).toArray))] ((y, Obj.cells ((Value.agg (tcl t).toArray)).cells 154 (0, 0)) :: (b15, Obj.cells (fp [p]).toArray 189 (0, 0)) :: (b12, Obj.cells #[Row.v (downW I N 0).length r1] 147 (0, 0)) :: (b9, Obj.cells (arr8 (List.replicate 32 0)) 33 (0, 0)) :: (b8, Obj.cells (arr8 (List.replicate 32 0)) 33 (0, 0)) :: (b7, Obj.cells #[.slice op ys.length cp] 39 (0, 0)) :: E) _ _
          have hky : k < ys.length := by omega
          obtain ⟨yk, hyk⟩ := get_some hky
          obtain ⟨a, rfl⟩ := Cs.get_some hqd (by omega)
          have hz : ((downW I N 0).reverse.zip ys)[k]? = some (t, yk) := List.getElem?_zip_eq_some.2 ⟨by rw [List.getElem?_reverse hkN]; exact ht, hyk⟩
          refine JC.block ?_
          refine JC.seq ?_
          refine JC.region ?_
          refine JL.asg ?_
          refine JL.nil ?_
          refine JQ.thenN ?_
          refine JC.seq ?_
          refine JC.seq ?_
          refine JC.region ?_
          refine JL.val rfl rfl rfl (.none rfl) (Ev.fld 3 rfl (fun _ _ => by kernel_rfl)) ?_
          refine JL.val rfl rfl rfl (.none rfl) (Ev.load1 rfl Tryd.underlying4 rfl (Rd.own memK rfl)) ?_
          refine JL.nil ?_
          refine JQ.thenN ?_
          refine JC.cond rfl (fun hrt => ?_) (fun hrt => ?_)
          · -- t58 True
            refine JC.region ?_
            refine JL.asg ?_
            refine JL.nil ?_
            refine JQ.thenN ?_
            refine JC.regionT 11 (by kernel_rfl) (by kernel_rfl) (List.take_append_drop 11 _).symm rfl ?_
            refine JW.val rfl rfl (.none rfl) (Ev.move rfl) ?_
            refine JW.val rfl rfl (.none rfl) (Ev.loadB rfl memK Tryd.underlying189 rfl Tryd.sizeOf189 (fp1_size _)) ?_
            refine JW.val rfl rfl (.none rfl) (Ev.load1 rfl Tryd.underlying39 rfl (Rd.own memK rfl)) ?_
            refine JW.val rfl rfl (.none rfl) (Ev.load1 (v := Row.v (downW I N 0).length r1) rfl Tryd.underlying147 rfl (Rd.own memK rfl)) ?_
            refine JW.val rfl rfl (.none rfl) (Ev.lenRow rfl Tryd.underlying147 hr1) ?_
            refine JW.val rfl rfl (.none rfl) (Ev.bin rfl rfl (sub_i64 (by omega))) ?_
            refine JW.val rfl rfl (.none rfl) (Ev.move rfl) ?_
            refine JW.val rfl rfl (.none rfl) (Ev.bin rfl rfl (sub_i64 (by omega))) ?_
            refine JW.val rfl rfl (.none rfl) (Ev.idxS rfl rfl Tryd.underlying39 Tryd.sizeOf33 (k := k) (by omega) (by omega)) ?_
            refine JW.val rfl rfl (.none rfl) (Ev.loadD rfl Tryd.underlying33 rfl Tryd.sizeOf33 (Rds.old ((hqd.mem a rfl).atD hyk))) ?_
            refine JW.callCloV rfl (.none rfl) rfl rfl Tryd.call133 (fun w1 hw1 => bright_any p.1 p.2 yk w1 (hk.old hw1) (hf.old hw1)) ?_
            refine JW.tail ?_
            refine JL.sto rfl rfl (.none rfl) (Es.storeA rfl rfl Tryd.sizeOf189 Upd.k (fp1_size _) (fp1_size _) (fp1_one _)) ?_
            refine JL.nil ?_
            refine JQ.blockN ?_
            refine JQ.bodG (nodeD yk p.1, nodeD yk p.2) ?_ ?_
            · rw [foldB_succ hz, ← hp]; unfold stepB; rw [if_pos hrt]
            · exact Sub.k
          · -- t58 False
            refine JC.skip ?_
            refine JQ.thenN ?_
            refine JC.regionT 11 (by kernel_rfl) (by kernel_rfl) (List.take_append_drop 11 _).symm rfl ?_
            refine JW.val rfl rfl (.none rfl) (Ev.move rfl) ?_
            refine JW.val rfl rfl (.none rfl) (Ev.loadB rfl memK Tryd.underlying189 rfl Tryd.sizeOf189 (fp1_size _)) ?_
            refine JW.val rfl rfl (.none rfl) (Ev.load1 rfl Tryd.underlying39 rfl (Rd.own memK rfl)) ?_
            refine JW.val rfl rfl (.none rfl) (Ev.load1 (v := Row.v (downW I N 0).length r1) rfl Tryd.underlying147 rfl (Rd.own memK rfl)) ?_
            refine JW.val rfl rfl (.none rfl) (Ev.lenRow rfl Tryd.underlying147 hr1) ?_
            refine JW.val rfl rfl (.none rfl) (Ev.bin rfl rfl (sub_i64 (by omega))) ?_
            refine JW.val rfl rfl (.none rfl) (Ev.move rfl) ?_
            refine JW.val rfl rfl (.none rfl) (Ev.bin rfl rfl (sub_i64 (by omega))) ?_
            refine JW.val rfl rfl (.none rfl) (Ev.idxS rfl rfl Tryd.underlying39 Tryd.sizeOf33 (k := k) (by omega) (by omega)) ?_
            refine JW.val rfl rfl (.none rfl) (Ev.loadD rfl Tryd.underlying33 rfl Tryd.sizeOf33 (Rds.old ((hqd.mem a rfl).atD hyk))) ?_
            refine JW.callCloV rfl (.none rfl) rfl rfl Tryd.call132 (fun w1 hw1 => bleft_any p.1 p.2 yk w1 (hk.old hw1) (hf.old hw1)) ?_
            refine JW.tail ?_
            refine JL.sto rfl rfl (.none rfl) (Es.storeA rfl rfl Tryd.sizeOf189 Upd.k (fp1_size _) (fp1_size _) (fp1_one _)) ?_
            refine JL.nil ?_
            refine JQ.blockN ?_
            refine JQ.bodG (p.1, nodeD p.2 yk) ?_ ?_
            · rw [foldB_succ hz, ← hp]; unfold stepB; rw [if_neg (by rw [hrt]; simp)]
            · exact Sub.k
        · rintro p D E hp
          have e := hfold.trans (show ((downW I N 0).reverse.zip ys).foldl stepB (z0, z0) = p by rw [hp, List.take_of_length_le (by rw [List.length_zip, List.length_reverse]; omega)])
          refine JQ.blockN ?_
          refine JQ.thenN ?_
          refine JC.seq ?_
          refine JC.cut (X := Unit) (fun _ => [(8, .pointer (some ⟨b8, 0, none⟩)), (9, .pointer (some ⟨b9, 0, none⟩)), (10, .int .i64 0)]) (fun _ => [(D, Obj.deferred (some [])), (b9, Obj.cells (arr8 p.2.1) 33 (0, 0)), (b8, Obj.cells (arr8 p.1.1) 33 (0, 0))]) ?_ ?_
          · refine JC.regionA (by kernel_rfl) ?_
            refine JA.tkc 0 rfl (.none rfl) (fun _ => (Ev.fld 0 rfl (fun _ _ => by kernel_rfl))) ?_
            refine JA.tkc 2 rfl (.none rfl) (fun _ => (Ev.fld 32 rfl (fun _ _ => by kernel_rfl))) ?_
            refine JA.branch [1, 3] (by kernel_rfl) rfl ?_
            refine JAll.cons rfl ?_ ?_
            · -- 1
              refine JO.val rfl rfl rfl (.none rfl) (Ev.loadD rfl Tryd.underlying33 rfl Tryd.sizeOf33 (Rds.half0 (p := p) memK)) ?_
              refine JA.branch [3, 4] (by kernel_rfl) rfl ?_
              refine JAll.cons rfl ?_ ?_
              · -- 3
                refine JO.val rfl rfl rfl (.none rfl) (Ev.loadD rfl Tryd.underlying33 rfl Tryd.sizeOf33 (Rds.half1 (p := p) memK)) ?_
                refine JA.one 4 ?_
                refine JO.sto rfl rfl (.none rfl) (Es.sA Tryd.sizeOf33) ?_
                refine JA.one 5 ?_
                refine JO.sto rfl rfl (.none rfl) (Es.sA Tryd.sizeOf33) ?_
                refine JA.tkc 6 rfl (.none rfl) (fun _ => (Ev.assign rfl)) ?_
                refine JA.done (by kernel_rfl) ?_
                refine JQ.cutN () ?_ ?_
                · exact Keeps.k
                · exact Sub.k
              refine JAll.cons rfl ?_ JAll.nil
              refine JO.sto rfl rfl (.none rfl) (Es.sA Tryd.sizeOf33) ?_
              refine JA.one 3 ?_
              refine JO.val rfl rfl rfl (.none rfl) (Ev.loadD rfl Tryd.underlying33 rfl Tryd.sizeOf33 (Rds.half1 (p := p) memK)) ?_
              refine JA.one 5 ?_
              refine JO.sto rfl rfl (.none rfl) (Es.sA Tryd.sizeOf33) ?_
              refine JA.tkc 6 rfl (.none rfl) (fun _ => (Ev.assign rfl)) ?_
              refine JA.done (by kernel_rfl) ?_
              refine JQ.cutN () ?_ ?_
              · exact Keeps.k
              · exact Sub.k
            refine JAll.cons rfl ?_ JAll.nil
            refine JO.val rfl rfl rfl (.none rfl) (Ev.loadD rfl Tryd.underlying33 rfl Tryd.sizeOf33 (Rds.half1 (p := p) memK)) ?_
            refine JA.one 1 ?_
            refine JO.val rfl rfl rfl (.none rfl) (Ev.loadD rfl Tryd.underlying33 rfl Tryd.sizeOf33 (Rds.half0 (p := p) memK)) ?_
            refine JA.one 4 ?_
            refine JO.sto rfl rfl (.none rfl) (Es.sA Tryd.sizeOf33) ?_
            refine JA.one 5 ?_
            refine JO.sto rfl rfl (.none rfl) (Es.sA Tryd.sizeOf33) ?_
            refine JA.tkc 6 rfl (.none rfl) (fun _ => (Ev.assign rfl)) ?_
            refine JA.done (by kernel_rfl) ?_
            refine JQ.cutN () ?_ ?_
            · exact Keeps.k
            · exact Sub.k
          rintro _
          refine JQ.thenN ?_
          refine JC.ret ?_
          refine JQ.endMs (H' := []) (.inl rfl) memK ⟨_, Upd.k, by exact Sub.k, (res3 rfl (.agg rfl memK Tryd.underlying33 rfl Tryd.sizeOf33 szK) (.agg rfl memK Tryd.underlying33 rfl Tryd.sizeOf33 szK) (.tmp rfl))⟩ ?_
          · first | (rw [fcV_bad hbad, fcE_bad hbad, pcE_bad hbad]; rfl) | (rw [fcV_ne hok hne, fcE_ne hok hne]; rfl) | rw [fcV_ok hok heq, fcE_ok hok heq, e]
        · rintro c p D E hs
          exact hs.elim
      · -- t44 False
        have hfr : downF I N true = true := by simpa using hfr
        rw [hfr] at hst
        simp only [if_true] at hst
        obtain ⟨z0, rfl⟩ : ∃ z, z = x := ⟨_, rfl⟩
        obtain ⟨ys, rfl⟩ : ∃ y, y = ds := ⟨_, rfl⟩
        obtain ⟨op, rfl⟩ : ∃ o, o = oa := ⟨_, rfl⟩
        obtain ⟨cp, rfl⟩ : ∃ c, c = cap := ⟨_, rfl⟩
        have hqd := hd
        have hql : ys.length = (downW I N 0).length := by omega
        have hfold : ledC I N true z0 ys = ((downW I N 0).reverse.zip ys).foldl stepB (z0, z0) := by have h := down_led N I N 0 true z0 z0 ys (Nat.le_refl _) hin.1 hin.2.1 hql; rw [hfr] at h; exact h
        refine JC.skip ?_
        refine JQ.thenN ?_
        refine JC.seq ?_
        refine JC.region ?_
        refine JL.val rfl rfl rfl (.none rfl) (Ev.lB Tryd.underlying33 Tryd.sizeOf33) ?_
        refine JL.val rfl rfl rfl (.none rfl) (Ev.lB Tryd.underlying33 Tryd.sizeOf33) ?_
        refine JL.val rfl rfl rfl (.none rfl) (Ev.buS rfl rfl Tryd.underlying189 (fun _ => by kernel_rfl) Tryd.zeroValue189 rfl) ?_
        refine JL.new rfl rfl rfl (.none rfl) (En.allocZ (cs := (fp [(zeroD, zeroD)]).toArray) Tryd.zeroValue189 rfl) (fun b15 hb15 => ?_)
        refine JL.sto rfl rfl (.none rfl) (Es.storeA rfl rfl Tryd.sizeOf189 Upd.k (fp1_size _) (fp1_size _) (fp1_one _)) ?_
        refine JL.nil ?_
        refine JQ.thenN ?_
        refine JC.seq ?_
        refine JC.seq ?_
        refine JC.region ?_
        refine JL.val rfl rfl rfl (.none rfl) (Ev.load1 (v := Row.v (downW I N 0).length r1) rfl Tryd.underlying147 rfl (Rd.own memK rfl)) ?_
        refine JL.callN rfl (.none rfl) rfl Tryd.call100 (fun w1 hw1 => backT_any _ w1 (Row.v_cells _ _)) ?_
        rintro _ _ ⟨bb, rfl, rfl⟩
        refine JL.nil ?_
        refine JQ.thenN ?_
        refine JC.block ?_
        refine JC.rangeH (ps := [55, 56]) (X := Dig × Dig) (Y := Nat) ((downW I N 0).length) (fun p E => (b15, Obj.cells (fp [p]).toArray 189 (0, 0)) :: (b12, Obj.cells #[Row.v (downW I N 0).length r1] 147 (0, 0)) :: (b9, Obj.cells (arr8 (List.replicate 32 0)) 33 (0, 0)) :: (b8, Obj.cells (arr8 (List.replicate 32 0)) 33 (0, 0)) :: (b7, Obj.cells #[.slice op ys.length cp] 39 (0, 0)) :: E) (fun k p => p = (((downW I N 0).reverse.zip ys).take k).foldl stepB (z0, z0)) (fun c p => False) ((fun k vs _ => ∃ t : Tn, (downW I N 0)[(downW I N 0).length - 1 - k]? = some t ∧ vs = [.int .i64 (((downW I N 0).length : Int) - 1 - (k : Int)), .agg (tcl t).toArray])) (((bb, Obj.cells #[Row.v (downW I N 0).length r1] 147 (0, 0)) :: Row.b 154 r1)) (z0, z0) (fun k p vs y => [(7, .pointer (some ⟨b7, 0, none⟩)), (8, .pointer (some ⟨b8, 0, none⟩)), (9, .pointer (some ⟨b9, 0, none⟩)), (12, .pointer (some ⟨b12, 0, none⟩)), (15, .pointer (some ⟨b15, 0, none⟩)), (16, (vs.headD undef)), (17, .pointer (some ⟨y, 0, none⟩)), (55, (vs.headD undef)), (56, ((vs.drop 1).headD undef))]) (fun p vs y E => (y, Obj.cells (((vs.drop 1).headD undef)).cells 154 (0, 0)) :: (b15, Obj.cells (fp [p]).toArray 189 (0, 0)) :: (b12, Obj.cells #[Row.v (downW I N 0).length r1] 147 (0, 0)) :: (b9, Obj.cells (arr8 (List.replicate 32 0)) 33 (0, 0)) :: (b8, Obj.cells (arr8 (List.replicate 32 0)) 33 (0, 0)) :: (b7, Obj.cells #[.slice op ys.length cp] 39 (0, 0)) :: E) (fun _ _ => rfl) (fun _ _ _ _ => rfl) rfl Tryd.call128 ?_ ?_ rfl (fun _ _ _ h => by obtain ⟨_, _, rfl⟩ := h; rfl) (fun X A Inv Z l x0 w1 hi hw hy => backTI_any (downW I N 0) r1 bb (by omega) X A Inv Z l x0 w w1 hi hw hy hr1) ?_ ?_ ?_ ?_
        · exact Sub.of_cnt (fun a => by (try dsimp only); simp only [cntA]; omega)
        · rfl
        · rintro lr k p vs O E hkN hp ⟨t, ht, rfl⟩ hO
          refine JC.seq ?_
          refine JC.region ?_
          refine JL.asg ?_
          refine JL.nil ?_
          refine JQ.thenN ?_
          refine JC.region ?_
          refine JL.new rfl rfl rfl (.none rfl) (En.allocZ (cs := #[.int .i64 0, .int .i64 0, .int .i64 0, .bool false]) Tryd.zeroValue154 rfl) (fun b17 hb17 => ?_)
          refine JL.sto rfl rfl (.none rfl) (Es.storeA rfl rfl Tryd.sizeOf154 Upd.k szK szK (fun u hu => ft_one [t] u (by simpa [ft] using hu))) ?_
          refine JL.nil ?_
          refine JQ.asgH b17 ?_ ?_
          · exact Keeps.k
          · exact Sub.k
        · rintro lr k p vs y O E hkN hp ⟨t, ht, rfl⟩ hO
          change JC _ [(7, .pointer (some ⟨b7, 0, none⟩)), (8, .pointer (some ⟨b8, 0, none⟩)), (9, .pointer (some ⟨b9, 0, none⟩)), (12, .pointer (some ⟨b12, 0, none⟩)), (15, .pointer (some ⟨b15, 0, none⟩)), (16, (.int .i64 (((downW I N 0).length : Int) - 1 - (k : Int)))), (17, .pointer (some ⟨y, 0, none⟩)), (55, (.int .i64 (((downW I N 0).length : Int) - 1 - (k : Int)))), (56, (Value.agg (tcl t).toArray))] ((y, Obj.cells ((Value.agg (tcl t).toArray)).cells 154 (0, 0)) :: (b15, Obj.cells (fp [p]).toArray 189 (0, 0)) :: (b12, Obj.cells #[Row.v (downW I N 0).length r1] 147 (0, 0)) :: (b9, Obj.cells (arr8 (List.replicate 32 0)) 33 (0, 0)) :: (b8, Obj.cells (arr8 (List.replicate 32 0)) 33 (0, 0)) :: (b7, Obj.cells #[.slice op ys.length cp] 39 (0, 0)) :: E) _ _
          have hky : k < ys.length := by omega
          obtain ⟨yk, hyk⟩ := get_some hky
          obtain ⟨a, rfl⟩ := Cs.get_some hqd (by omega)
          have hz : ((downW I N 0).reverse.zip ys)[k]? = some (t, yk) := List.getElem?_zip_eq_some.2 ⟨by rw [List.getElem?_reverse hkN]; exact ht, hyk⟩
          refine JC.block ?_
          refine JC.seq ?_
          refine JC.region ?_
          refine JL.asg ?_
          refine JL.nil ?_
          refine JQ.thenN ?_
          refine JC.seq ?_
          refine JC.seq ?_
          refine JC.region ?_
          refine JL.val rfl rfl rfl (.none rfl) (Ev.fld 3 rfl (fun _ _ => by kernel_rfl)) ?_
          refine JL.val rfl rfl rfl (.none rfl) (Ev.load1 rfl Tryd.underlying4 rfl (Rd.own memK rfl)) ?_
          refine JL.nil ?_
          refine JQ.thenN ?_
          refine JC.cond rfl (fun hrt => ?_) (fun hrt => ?_)
          · -- t58 True
            refine JC.region ?_
            refine JL.asg ?_
            refine JL.nil ?_
            refine JQ.thenN ?_
            refine JC.regionT 11 (by kernel_rfl) (by kernel_rfl) (List.take_append_drop 11 _).symm rfl ?_
            refine JW.val rfl rfl (.none rfl) (Ev.move rfl) ?_
            refine JW.val rfl rfl (.none rfl) (Ev.loadB rfl memK Tryd.underlying189 rfl Tryd.sizeOf189 (fp1_size _)) ?_
            refine JW.val rfl rfl (.none rfl) (Ev.load1 rfl Tryd.underlying39 rfl (Rd.own memK rfl)) ?_
            refine JW.val rfl rfl (.none rfl) (Ev.load1 (v := Row.v (downW I N 0).length r1) rfl Tryd.underlying147 rfl (Rd.own memK rfl)) ?_
            refine JW.val rfl rfl (.none rfl) (Ev.lenRow rfl Tryd.underlying147 hr1) ?_
            refine JW.val rfl rfl (.none rfl) (Ev.bin rfl rfl (sub_i64 (by omega))) ?_
            refine JW.val rfl rfl (.none rfl) (Ev.move rfl) ?_
            refine JW.val rfl rfl (.none rfl) (Ev.bin rfl rfl (sub_i64 (by omega))) ?_
            refine JW.val rfl rfl (.none rfl) (Ev.idxS rfl rfl Tryd.underlying39 Tryd.sizeOf33 (k := k) (by omega) (by omega)) ?_
            refine JW.val rfl rfl (.none rfl) (Ev.loadD rfl Tryd.underlying33 rfl Tryd.sizeOf33 (Rds.old ((hqd.mem a rfl).atD hyk))) ?_
            refine JW.callCloV rfl (.none rfl) rfl rfl Tryd.call133 (fun w1 hw1 => bright_any p.1 p.2 yk w1 (hk.old hw1) (hf.old hw1)) ?_
            refine JW.tail ?_
            refine JL.sto rfl rfl (.none rfl) (Es.storeA rfl rfl Tryd.sizeOf189 Upd.k (fp1_size _) (fp1_size _) (fp1_one _)) ?_
            refine JL.nil ?_
            refine JQ.blockN ?_
            refine JQ.bodG (nodeD yk p.1, nodeD yk p.2) ?_ ?_
            · rw [foldB_succ hz, ← hp]; unfold stepB; rw [if_pos hrt]
            · exact Sub.k
          · -- t58 False
            refine JC.skip ?_
            refine JQ.thenN ?_
            refine JC.regionT 11 (by kernel_rfl) (by kernel_rfl) (List.take_append_drop 11 _).symm rfl ?_
            refine JW.val rfl rfl (.none rfl) (Ev.move rfl) ?_
            refine JW.val rfl rfl (.none rfl) (Ev.loadB rfl memK Tryd.underlying189 rfl Tryd.sizeOf189 (fp1_size _)) ?_
            refine JW.val rfl rfl (.none rfl) (Ev.load1 rfl Tryd.underlying39 rfl (Rd.own memK rfl)) ?_
            refine JW.val rfl rfl (.none rfl) (Ev.load1 (v := Row.v (downW I N 0).length r1) rfl Tryd.underlying147 rfl (Rd.own memK rfl)) ?_
            refine JW.val rfl rfl (.none rfl) (Ev.lenRow rfl Tryd.underlying147 hr1) ?_
            refine JW.val rfl rfl (.none rfl) (Ev.bin rfl rfl (sub_i64 (by omega))) ?_
            refine JW.val rfl rfl (.none rfl) (Ev.move rfl) ?_
            refine JW.val rfl rfl (.none rfl) (Ev.bin rfl rfl (sub_i64 (by omega))) ?_
            refine JW.val rfl rfl (.none rfl) (Ev.idxS rfl rfl Tryd.underlying39 Tryd.sizeOf33 (k := k) (by omega) (by omega)) ?_
            refine JW.val rfl rfl (.none rfl) (Ev.loadD rfl Tryd.underlying33 rfl Tryd.sizeOf33 (Rds.old ((hqd.mem a rfl).atD hyk))) ?_
            refine JW.callCloV rfl (.none rfl) rfl rfl Tryd.call132 (fun w1 hw1 => bleft_any p.1 p.2 yk w1 (hk.old hw1) (hf.old hw1)) ?_
            refine JW.tail ?_
            refine JL.sto rfl rfl (.none rfl) (Es.storeA rfl rfl Tryd.sizeOf189 Upd.k (fp1_size _) (fp1_size _) (fp1_one _)) ?_
            refine JL.nil ?_
            refine JQ.blockN ?_
            refine JQ.bodG (p.1, nodeD p.2 yk) ?_ ?_
            · rw [foldB_succ hz, ← hp]; unfold stepB; rw [if_neg (by rw [hrt]; simp)]
            · exact Sub.k
        · rintro p D E hp
          have e := hfold.trans (show ((downW I N 0).reverse.zip ys).foldl stepB (z0, z0) = p by rw [hp, List.take_of_length_le (by rw [List.length_zip, List.length_reverse]; omega)])
          refine JQ.blockN ?_
          refine JQ.thenN ?_
          refine JC.seq ?_
          refine JC.cut (X := Unit) (fun _ => [(8, .pointer (some ⟨b8, 0, none⟩)), (9, .pointer (some ⟨b9, 0, none⟩)), (10, .int .i64 0)]) (fun _ => [(D, Obj.deferred (some [])), (b9, Obj.cells (arr8 p.2.1) 33 (0, 0)), (b8, Obj.cells (arr8 p.1.1) 33 (0, 0))]) ?_ ?_
          · refine JC.regionA (by kernel_rfl) ?_
            refine JA.tkc 0 rfl (.none rfl) (fun _ => (Ev.fld 0 rfl (fun _ _ => by kernel_rfl))) ?_
            refine JA.tkc 2 rfl (.none rfl) (fun _ => (Ev.fld 32 rfl (fun _ _ => by kernel_rfl))) ?_
            refine JA.branch [1, 3] (by kernel_rfl) rfl ?_
            refine JAll.cons rfl ?_ ?_
            · -- 1
              refine JO.val rfl rfl rfl (.none rfl) (Ev.loadD rfl Tryd.underlying33 rfl Tryd.sizeOf33 (Rds.half0 (p := p) memK)) ?_
              refine JA.branch [3, 4] (by kernel_rfl) rfl ?_
              refine JAll.cons rfl ?_ ?_
              · -- 3
                refine JO.val rfl rfl rfl (.none rfl) (Ev.loadD rfl Tryd.underlying33 rfl Tryd.sizeOf33 (Rds.half1 (p := p) memK)) ?_
                refine JA.one 4 ?_
                refine JO.sto rfl rfl (.none rfl) (Es.sA Tryd.sizeOf33) ?_
                refine JA.one 5 ?_
                refine JO.sto rfl rfl (.none rfl) (Es.sA Tryd.sizeOf33) ?_
                refine JA.tkc 6 rfl (.none rfl) (fun _ => (Ev.assign rfl)) ?_
                refine JA.done (by kernel_rfl) ?_
                refine JQ.cutN () ?_ ?_
                · exact Keeps.k
                · exact Sub.k
              refine JAll.cons rfl ?_ JAll.nil
              refine JO.sto rfl rfl (.none rfl) (Es.sA Tryd.sizeOf33) ?_
              refine JA.one 3 ?_
              refine JO.val rfl rfl rfl (.none rfl) (Ev.loadD rfl Tryd.underlying33 rfl Tryd.sizeOf33 (Rds.half1 (p := p) memK)) ?_
              refine JA.one 5 ?_
              refine JO.sto rfl rfl (.none rfl) (Es.sA Tryd.sizeOf33) ?_
              refine JA.tkc 6 rfl (.none rfl) (fun _ => (Ev.assign rfl)) ?_
              refine JA.done (by kernel_rfl) ?_
              refine JQ.cutN () ?_ ?_
              · exact Keeps.k
              · exact Sub.k
            refine JAll.cons rfl ?_ JAll.nil
            refine JO.val rfl rfl rfl (.none rfl) (Ev.loadD rfl Tryd.underlying33 rfl Tryd.sizeOf33 (Rds.half1 (p := p) memK)) ?_
            refine JA.one 1 ?_
            refine JO.val rfl rfl rfl (.none rfl) (Ev.loadD rfl Tryd.underlying33 rfl Tryd.sizeOf33 (Rds.half0 (p := p) memK)) ?_
            refine JA.one 4 ?_
            refine JO.sto rfl rfl (.none rfl) (Es.sA Tryd.sizeOf33) ?_
            refine JA.one 5 ?_
            refine JO.sto rfl rfl (.none rfl) (Es.sA Tryd.sizeOf33) ?_
            refine JA.tkc 6 rfl (.none rfl) (fun _ => (Ev.assign rfl)) ?_
            refine JA.done (by kernel_rfl) ?_
            refine JQ.cutN () ?_ ?_
            · exact Keeps.k
            · exact Sub.k
          rintro _
          refine JQ.thenN ?_
          refine JC.ret ?_
          refine JQ.endMs (H' := []) (.inl rfl) memK ⟨_, Upd.k, by exact Sub.k, (res3 rfl (.agg rfl memK Tryd.underlying33 rfl Tryd.sizeOf33 szK) (.agg rfl memK Tryd.underlying33 rfl Tryd.sizeOf33 szK) (.tmp rfl))⟩ ?_
          · first | (rw [fcV_bad hbad, fcE_bad hbad, pcE_bad hbad]; rfl) | (rw [fcV_ne hok hne, fcE_ne hok hne]; rfl) | rw [fcV_ok hok heq, fcE_ok hok heq, e]
        · rintro c p D E hs
          exact hs.elim

theorem cVerify_any (x y : Dig) (i n : Int) (hib : -9223372036854775808 ≤ i ∧ i ≤ 9223372036854775807) (hnb : -9223372036854775808 ≤ n ∧ n ≤ 9223372036854775807) (oa : Option Addr) (cap : Nat) (ds : List Dig) (w : World) (hd : Dl w oa cap ds) (hk : KMem 1 w) (hf : FMem 0 w) :
    Calls Tryd.prog 64 #[.int .i64 i, .int .i64 n, .agg (arr8 x.1), .agg (arr8 y.1), .slice oa ds.length cap] w (Ret w (fun v _ => v = .tuple #[.bool (vcV x y i n ds), .int .i64 (vcE i n ds)])) := by
  refine enter (vs := [.int .i64 i, .int .i64 n, .agg (arr8 x.1), .agg (arr8 y.1), .slice oa ds.length cap]) Tryd.func64 rfl Tryd.ntmps64 rfl ?_
  refine JC.seq ?_
  refine JC.region ?_
  refine JL.new rfl rfl rfl (.none rfl) (En.boxA rfl) (fun b7 hb7 => ?_)
  refine JL.new rfl rfl rfl (.none rfl) (En.boxA rfl) (fun b8 hb8 => ?_)
  refine JL.asg ?_
  refine JL.asg ?_
  refine JL.nil ?_
  refine JQ.thenN ?_
  refine JC.seq ?_
  refine JC.region ?_
  refine JL.mv ?_
  refine JL.mv ?_
  refine JL.val rfl rfl rfl (.none rfl) (Ev.lB Tryd.underlying33 Tryd.sizeOf33) ?_
  refine JL.mv ?_
  refine JL.callV rfl (.none rfl) rfl Tryd.call105 (fun w1 hw1 => cFollow_any x i n hib hnb oa cap ds w1 (hd.old hw1) (hk.old hw1) (hf.old hw1)) ?_
  refine JL.mv ?_
  refine JL.val rfl rfl rfl (.none rfl) (Ev.ex0 rfl) ?_
  refine JL.val rfl rfl rfl (.none rfl) (Ev.ex1 rfl) ?_
  refine JL.val rfl rfl rfl (.none rfl) (Ev.ex2 rfl) ?_
  refine JL.new rfl rfl rfl (.none rfl) (En.allocZ (cs := arr8 (List.replicate 32 0)) Tryd.zeroValue33 rfl) (fun b12 hb12 => ?_)
  refine JL.new rfl rfl rfl (.none rfl) (En.allocZ (cs := arr8 (List.replicate 32 0)) Tryd.zeroValue33 rfl) (fun b13 hb13 => ?_)
  refine JL.sto rfl rfl (.none rfl) (Es.sA Tryd.sizeOf33) ?_
  refine JL.sto rfl rfl (.none rfl) (Es.sA Tryd.sizeOf33) ?_
  refine JL.asg ?_
  refine JL.nil ?_
  refine JQ.thenN ?_
  refine JC.seq ?_
  refine JC.seq ?_
  refine JC.region ?_
  refine JL.mv ?_
  refine JL.val rfl rfl rfl (.none rfl) (Ev.bin rfl rfl eql_int) ?_
  refine JL.nil ?_
  refine JQ.thenN ?_
  refine JC.cond rfl (fun hc1 => ?_) (fun hc1 => ?_)
  · -- t25 True
    replace hc1 := of_decide_eq_true hc1
    refine JC.seq ?_
    refine JC.region ?_
    refine JL.mv ?_
    refine JL.asg ?_
    refine JL.asg ?_
    refine JL.nil ?_
    refine JQ.thenN ?_
    refine JC.ret ?_
    refine JQ.thenR ?_
    refine JQ.end2 (H' := []) (.inl rfl) rfl (.tmp rfl) (.tmp rfl) ?_ ?_
    · exact Sub.k
    · first | (rw [vcV_bad hc1, vcE_bad hc1, hc1] <;> rfl) | (rw [vcV_e hc1 hgE, vcE_ok hc1] <;> rfl) | (rw [vcV_o hc1 hgO, vcE_ok hc1] <;> rfl) | (rw [vcV_y hc1 hgE hgO, vcE_ok hc1] <;> rfl)
  · -- t25 False
    replace hc1 := of_decide_eq_false hc1
    refine JC.skip ?_
    refine JQ.thenN ?_
    refine JC.seq ?_
    refine JC.region ?_
    refine JL.mv ?_
    refine JL.val rfl rfl rfl (.none rfl) (Ev.bin rfl rfl eql_int) ?_
    refine JL.mv ?_
    refine JL.split (d := 29) rfl (fun hgE => ?_) (fun hgE => ?_)
    · -- guard 29 true
      have hgE := of_decide_eq_true hgE
      refine JL.val rfl rfl rfl (.yes rfl rfl rfl) (Ev.lB Tryd.underlying33 Tryd.sizeOf33) ?_
      refine JL.val rfl rfl rfl (.yes rfl rfl rfl) (Ev.lB Tryd.underlying33 Tryd.sizeOf33) ?_
      refine JL.val rfl rfl rfl (.yes rfl rfl rfl) (Ev.bin rfl rfl (eql_arr8 (n := 32) Tryd.underlying33 Tryd.underlying5 (by kernel_rfl) (by kernel_rfl) (by first | rfl | exact dig_len _ | assumption | exact sha_length _ | exact shaO_length _) (by first | rfl | exact dig_len _ | assumption | exact sha_length _ | exact shaO_length _))) ?_
      refine JL.val rfl rfl rfl (.none rfl) (Ev.pickT rfl rfl) ?_
      refine JL.mv ?_
      refine JL.split (d := 34) rfl (fun hgO => ?_) (fun hgO => ?_)
      · -- guard 34 true
        have hgO := of_decide_eq_true hgO
        refine JL.val rfl rfl rfl (.yes rfl rfl rfl) (Ev.lB Tryd.underlying33 Tryd.sizeOf33) ?_
        refine JL.val rfl rfl rfl (.yes rfl rfl rfl) (Ev.lB Tryd.underlying33 Tryd.sizeOf33) ?_
        refine JL.val rfl rfl rfl (.yes rfl rfl rfl) (Ev.bin rfl rfl (eql_arr8 (n := 32) Tryd.underlying33 Tryd.underlying5 (by kernel_rfl) (by kernel_rfl) (by first | rfl | exact dig_len _ | assumption | exact sha_length _ | exact shaO_length _) (by first | rfl | exact dig_len _ | assumption | exact sha_length _ | exact shaO_length _))) ?_
        refine JL.val rfl rfl rfl (.none rfl) (Ev.pickT rfl rfl) ?_
        refine JL.asg ?_
        refine JL.asg ?_
        refine JL.nil ?_
        refine JQ.thenN ?_
        refine JC.ret ?_
        refine JQ.end2 (H' := []) (.inl rfl) rfl (.tmp rfl) (.tmp rfl) ?_ ?_
        · exact Sub.k
        · first | (rw [vcV_bad hc1, vcE_bad hc1, hc1] <;> rfl) | (rw [vcV_e hc1 hgE, vcE_ok hc1] <;> rfl) | (rw [vcV_o hc1 hgO, vcE_ok hc1] <;> rfl) | (rw [vcV_y hc1 hgE hgO, vcE_ok hc1] <;> rfl)
      · -- guard 34 false
        have hgO := of_decide_eq_false hgO
        refine JL.skip rfl rfl (.noT rfl rfl rfl) ?_
        refine JL.skip rfl rfl (.noT rfl rfl rfl) ?_
        refine JL.skip rfl rfl (.noT rfl rfl rfl) ?_
        refine JL.val rfl rfl rfl (.none rfl) (Ev.pickF rfl rfl) ?_
        refine JL.asg ?_
        refine JL.asg ?_
        refine JL.nil ?_
        refine JQ.thenN ?_
        refine JC.ret ?_
        refine JQ.end2 (H' := []) (.inl rfl) rfl (.tmp rfl) (.tmp rfl) ?_ ?_
        · exact Sub.k
        · first | (rw [vcV_bad hc1, vcE_bad hc1, hc1] <;> rfl) | (rw [vcV_e hc1 hgE, vcE_ok hc1] <;> rfl) | (rw [vcV_o hc1 hgO, vcE_ok hc1] <;> rfl) | (rw [vcV_y hc1 hgE hgO, vcE_ok hc1] <;> rfl)
    · -- guard 29 false
      have hgE := of_decide_eq_false hgE
      refine JL.skip rfl rfl (.noT rfl rfl rfl) ?_
      refine JL.skip rfl rfl (.noT rfl rfl rfl) ?_
      refine JL.skip rfl rfl (.noT rfl rfl rfl) ?_
      refine JL.val rfl rfl rfl (.none rfl) (Ev.pickF rfl rfl) ?_
      refine JL.mv ?_
      refine JL.skip rfl rfl (.noT rfl rfl rfl) ?_
      refine JL.skip rfl rfl (.noT rfl rfl rfl) ?_
      refine JL.skip rfl rfl (.noT rfl rfl rfl) ?_
      refine JL.val rfl rfl rfl (.none rfl) (Ev.pickF rfl rfl) ?_
      refine JL.asg ?_
      refine JL.asg ?_
      refine JL.nil ?_
      refine JQ.thenN ?_
      refine JC.ret ?_
      refine JQ.end2 (H' := []) (.inl rfl) rfl (.tmp rfl) (.tmp rfl) ?_ ?_
      · exact Sub.k
      · first | (rw [vcV_bad hc1, vcE_bad hc1, hc1] <;> rfl) | (rw [vcV_e hc1 hgE, vcE_ok hc1] <;> rfl) | (rw [vcV_o hc1 hgO, vcE_ok hc1] <;> rfl) | (rw [vcV_y hc1 hgE hgO, vcE_ok hc1] <;> rfl)

end Go.Proofs.YtopaednfjjjnbaaDoor
