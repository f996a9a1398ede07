/-
  Consistency: the pairs hashed, pairs that clash, lists with one root; the main theorem.
-/
import Derived.Test.YtimegpilihfghaaDoorCon7
import Derived.Test.YtimegpilihfghaaDoorColl
import Derived.Test.YtimegpilihfghaaDoorPeq
namespace Go.Proofs.YtimegpilihfghaaDoor
open Go Go.RowKit
set_option maxRecDepth 100000

theorem pairsC_le : ∀ (f m n : Nat) (fr : Bool) (x : Dig) (p : List Dig), n ≤ f → 1 ≤ m → m ≤ n → (pairsR m n fr x p).1.length ≤ n
  | 0, m, n, fr, x, p, hf, h1, hm => by omega
  | f + 1, m, n, fr, x, p, hf, h1, hm => by
    by_cases he : m = n
    · rw [pairsR_top he]; exact Nat.zero_le _
    · have hb := bel_lt (n := n) (by omega)
      have hp := bel_pos n
      rw [pairsR, dif_neg (by omega)]
      split
      · rw [List.length_append]
        have := pairsC_le f m (bel n) fr x p.dropLast (by omega) h1 (by assumption)
        show _ + 1 ≤ n
        omega
      · rw [List.length_append]
        have := pairsC_le f (m - bel n) (n - bel n) false x p.dropLast (by omega) (by omega) (by omega)
        show _ + 1 ≤ n
        omega

theorem cclash_any (A B : Dig × Dig) (w : World) (hk : KMem 1 w) (hf : FMem 0 w) :
    Calls Tryd.prog 31 #[.agg (fp [A]).toArray, .agg (fp [B]).toArray] w (Ret w (fun v _ => v = .bool (clashP A B))) := by
  refine enter (vs := [.agg (fp [A]).toArray, .agg (fp [B]).toArray]) Tryd.func31 rfl Tryd.ntmps31 rfl ?_
  refine JC.seq ?_
  refine JC.region ?_
  refine JL.new rfl rfl rfl (.none rfl) (En.boxA rfl) (fun b2 hb2 => ?_)
  refine JL.new rfl rfl rfl (.none rfl) (En.boxA rfl) (fun b3 hb3 => ?_)
  refine JL.asg ?_
  refine JL.nil ?_
  refine JQ.thenN ?_
  refine JC.seq ?_
  refine JC.regionQ (by kernel_rfl) (by kernel_rfl) ?_
  refine JW.val rfl rfl (.none rfl) (Ev.loadB rfl memK Tryd.underlying60 rfl Tryd.sizeOf60 (fp1_size _)) ?_
  refine JW.val rfl rfl (.none rfl) (Ev.loadB rfl memK Tryd.underlying60 rfl Tryd.sizeOf60 (fp1_size _)) ?_
  refine JW.val rfl rfl (.none rfl) (Ev.bin rfl rfl (neq_pair Tryd.underlying60 Tryd.underlying22 Tryd.underlying5 (by kernel_rfl) (by kernel_rfl) Tryd.sizeOf22 (by kernel_rfl) A B)) ?_
  refine JW.val rfl rfl (.none rfl) (Ev.move rfl) ?_
  refine JW.split (d := 8) rfl (fun hgA => ?_) (fun hgA => ?_)
  · -- guard 8 true
    refine JW.val rfl rfl (.yes rfl rfl rfl) (Ev.idxA (k := 0) rfl rfl Tryd.underlying60 Tryd.sizeOf22 rfl (by omega)) ?_
    refine JW.val rfl rfl (.yes rfl rfl rfl) (Ev.loadD rfl Tryd.underlying22 rfl Tryd.sizeOf22 (Rds.half0 (p := A) (by repeat (first | exact List.Mem.head _ | refine List.Mem.tail _ ?_ | refine List.mem_append_right _ ?_)))) ?_
    refine JW.val rfl rfl (.yes rfl rfl rfl) (Ev.idxA (k := 1) rfl rfl Tryd.underlying60 Tryd.sizeOf22 rfl (by omega)) ?_
    refine JW.val rfl rfl (.yes rfl rfl rfl) (Ev.loadD rfl Tryd.underlying22 rfl Tryd.sizeOf22 (Rds.half1 (p := A) (by repeat (first | exact List.Mem.head _ | refine List.Mem.tail _ ?_ | refine List.mem_append_right _ ?_)))) ?_
    refine JW.call rfl (.yes rfl rfl rfl) rfl Tryd.call48 (fun w1 hw1 => nodeG_any _ _ w1 (hk.old hw1) (hf.old hw1)) ?_
    refine JW.val rfl rfl (.yes rfl rfl rfl) (Ev.idxA (k := 0) rfl rfl Tryd.underlying60 Tryd.sizeOf22 rfl (by omega)) ?_
    refine JW.val rfl rfl (.yes rfl rfl rfl) (Ev.loadD rfl Tryd.underlying22 rfl Tryd.sizeOf22 (Rds.half0 (p := B) (by repeat (first | exact List.Mem.head _ | refine List.Mem.tail _ ?_ | refine List.mem_append_right _ ?_)))) ?_
    refine JW.val rfl rfl (.yes rfl rfl rfl) (Ev.idxA (k := 1) rfl rfl Tryd.underlying60 Tryd.sizeOf22 rfl (by omega)) ?_
    refine JW.val rfl rfl (.yes rfl rfl rfl) (Ev.loadD rfl Tryd.underlying22 rfl Tryd.sizeOf22 (Rds.half1 (p := B) (by repeat (first | exact List.Mem.head _ | refine List.Mem.tail _ ?_ | refine List.mem_append_right _ ?_)))) ?_
    refine JW.call rfl (.yes rfl rfl rfl) rfl Tryd.call48 (fun w1 hw1 => nodeG_any _ _ w1 (hk.old hw1) (hf.old hw1)) ?_
    refine JW.val rfl rfl (.yes rfl rfl rfl) (Ev.bin rfl rfl (eql_arr8 (n := 32) Tryd.underlying22 Tryd.underlying5 (by kernel_rfl) (by kernel_rfl) (by first | rfl | exact dig_len _ | assumption | exact sha_length _ | exact shaO_length _) (by first | rfl | exact dig_len _ | assumption | exact sha_length _ | exact shaO_length _))) ?_
    refine JW.val rfl rfl (.none rfl) (Ev.pickT rfl rfl) ?_
    refine JW.val rfl rfl (.none rfl) (Ev.assign rfl) ?_
    refine JW.nilQ ?_
    refine JQ.thenN ?_
    refine JC.ret ?_
    refine JQ.end1 (H' := []) (.inl rfl) rfl (.tmp rfl) ?_ ?_
    · exact Sub.k
    · exact congrArg Value.bool (by unfold clashP; rw [hgA]; rfl)
  · -- guard 8 false
    refine JW.skip rfl rfl (.noT rfl rfl rfl) ?_
    refine JW.skip rfl rfl (.noT rfl rfl rfl) ?_
    refine JW.skip rfl rfl (.noT rfl rfl rfl) ?_
    refine JW.skip rfl rfl (.noT rfl rfl rfl) ?_
    refine JW.skip rfl rfl (.noT rfl rfl rfl) ?_
    refine JW.skip rfl rfl (.noT rfl rfl rfl) ?_
    refine JW.skip rfl rfl (.noT rfl rfl rfl) ?_
    refine JW.skip rfl rfl (.noT rfl rfl rfl) ?_
    refine JW.skip rfl rfl (.noT rfl rfl rfl) ?_
    refine JW.skip rfl rfl (.noT rfl rfl rfl) ?_
    refine JW.skip rfl rfl (.noT rfl rfl rfl) ?_
    refine JW.val rfl rfl (.none rfl) (Ev.pickF rfl rfl) ?_
    refine JW.val rfl rfl (.none rfl) (Ev.assign rfl) ?_
    refine JW.nilQ ?_
    refine JQ.thenN ?_
    refine JC.ret ?_
    refine JQ.end1 (H' := []) (.inl rfl) rfl (.tmp rfl) ?_ ?_
    · exact Sub.k
    · exact congrArg Value.bool (by unfold clashP; rw [hgA]; rfl)

theorem pairsC_any_step (N : Nat) (ih : ∀ (x : Dig) (m : Nat) (n : Nat) (fr : Bool) (oa : Option Addr) (cap : Nat) (ds : List Dig) (w : World) (_ : 1 ≤ m) (_ : m ≤ n) (_ : n ≤ 1024) (_ : Dl w oa cap ds) (_ : ds.length = stepsC m n fr) (_ : KMem 1 w) (_ : FMem 0 w), n < N → Calls Tryd.prog 30 #[.int .i64 (m : Int), .int .i64 (n : Int), .bool fr, .agg (arr8 x.1), .slice oa ds.length cap] w (Ret w (fun v H => ∃ r : Option Row, v = .tuple #[Row.v (pairsR m n fr x ds).1.length r, .agg (arr8 (pairsR m n fr x ds).2.1)] ∧ H = Row.b 60 r ∧ Row.ok 64 (pairsR m n fr x ds).1.length (fp (pairsR m n fr x ds).1) r))) (x : Dig) (m : Nat) (n : Nat) (fr : Bool) (oa : Option Addr) (cap : Nat) (ds : List Dig) (w : World) (hm1 : 1 ≤ m) (hm2 : m ≤ n) (hmx : n ≤ 1024) (hd : Dl w oa cap ds) (hst : ds.length = stepsC m n fr) (hk : KMem 1 w) (hf : FMem 0 w) (hN : n = N) :
    Calls Tryd.prog 30 #[.int .i64 (m : Int), .int .i64 (n : Int), .bool fr, .agg (arr8 x.1), .slice oa ds.length cap] w (Ret w (fun v H => ∃ r : Option Row, v = .tuple #[Row.v (pairsR m n fr x ds).1.length r, .agg (arr8 (pairsR m n fr x ds).2.1)] ∧ H = Row.b 60 r ∧ Row.ok 64 (pairsR m n fr x ds).1.length (fp (pairsR m n fr x ds).1) r)) := by
  refine enter (vs := [.int .i64 (m : Int), .int .i64 (n : Int), .bool fr, .agg (arr8 x.1), .slice oa ds.length cap]) Tryd.func30 rfl Tryd.ntmps30 rfl ?_
  refine JC.seq ?_
  refine JC.region ?_
  refine JL.new rfl rfl rfl (.none rfl) (En.boxA rfl) (fun b8 hb8 => ?_)
  refine JL.asg ?_
  refine JL.new rfl rfl rfl (.none rfl) (En.allocZ (cs := arr8 (List.replicate 32 0)) Tryd.zeroValue22 rfl) (fun b11 hb11 => ?_)
  refine JL.nil ?_
  refine JQ.thenN ?_
  refine JC.seq ?_
  refine JC.seq ?_
  refine JC.region ?_
  refine JL.mv ?_
  refine JL.mv ?_
  refine JL.val rfl rfl rfl (.none rfl) (Ev.bin rfl rfl eql_int) ?_
  refine JL.nil ?_
  refine JQ.thenN ?_
  refine JC.cond rfl (fun hc1 => ?_) (fun hc1 => ?_)
  · -- t21 True
    replace hc1 := of_decide_eq_true hc1
    have he : m = n := by omega
    refine JC.seq ?_
    refine JC.seq ?_
    refine JC.region ?_
    refine JL.mv ?_
    refine JL.nil ?_
    refine JQ.thenN ?_
    refine JC.cond rfl (fun hfr => ?_) (fun hfr => ?_)
    · -- t22 True
      subst hfr
      refine JC.seq ?_
      refine JC.regionA (by kernel_rfl) ?_
      refine JA.tk 1 rfl (.none rfl) (fun _ => (Ev.assign rfl)) ?_
      refine JA.one 0 ?_
      refine JO.val rfl rfl rfl (.none rfl) (Ev.lB Tryd.underlying22 Tryd.sizeOf22) ?_
      refine JA.one 2 ?_
      refine JO.sto rfl rfl (.none rfl) (Es.sA Tryd.sizeOf22) ?_
      refine JA.done (by kernel_rfl) ?_
      refine JQ.thenN ?_
      refine JC.ret ?_
      refine JQ.thenR ?_
      refine JQ.thenR ?_
      refine JQ.end2 (H' := []) (.inl rfl) rfl (.tmp rfl) (.agg rfl memK Tryd.underlying22 rfl Tryd.sizeOf22 szK) ?_ ?_
      · exact Sub.k
      · first | exact ⟨none, by rw [pairsR_top he]; rfl, rfl, by rw [pairsR_top he]; exact Row.ok0⟩ | exact ⟨none, by rw [pairsR_top he]; simp only [Bool.false_eq_true, if_false]; rw [hhd]; rfl, rfl, by rw [pairsR_top he]; exact Row.ok0⟩ | exact ⟨some rn, by rw [pairsR_left hm1 (by omega) hl]; rw [List.length_append]; rfl, rfl, by rw [pairsR_left hm1 (by omega) hl]; rw [List.length_append, fp_append]; exact hrn⟩ | exact ⟨some rn, by rw [pairsR_right hm1 (by omega) hl]; rw [List.length_append]; rfl, rfl, by rw [pairsR_right hm1 (by omega) hl]; rw [List.length_append, fp_append]; exact hrn⟩
    · -- t22 False
      subst hfr
      have h1 : ds.length = 1 := by rw [hst, stepsC_top he]; rfl
      obtain ⟨a, rfl⟩ := Cs.get_some hd (by omega)
      obtain ⟨d, hd0⟩ := get_some (l := ds) (k := 0) (by omega)
      have hhd : ds.headD zeroD = d := headD_get hd0
      refine JC.skip ?_
      refine JQ.thenN ?_
      refine JC.seq ?_
      refine JC.regionA (by kernel_rfl) ?_
      refine JA.tk 0 rfl (.none rfl) (fun _ => (Ev.move rfl)) ?_
      refine JA.tk 1 rfl (.none rfl) (fun _ => (Ev.idxS (k := 0) rfl rfl Tryd.underlying23 Tryd.sizeOf22 rfl (by omega))) ?_
      refine JA.tk 3 rfl (.none rfl) (fun _ => (Ev.assign rfl)) ?_
      refine JA.one 2 ?_
      refine JO.val rfl rfl rfl (.none rfl) (Ev.loadD rfl Tryd.underlying22 rfl Tryd.sizeOf22 (Rds.old ((hd.mem a rfl).atD hd0))) ?_
      refine JA.one 4 ?_
      refine JO.sto rfl rfl (.none rfl) (Es.sA Tryd.sizeOf22) ?_
      refine JA.done (by kernel_rfl) ?_
      refine JQ.thenN ?_
      refine JC.ret ?_
      refine JQ.thenR ?_
      refine JQ.end2 (H' := []) (.inl rfl) rfl (.tmp rfl) (.agg rfl memK Tryd.underlying22 rfl Tryd.sizeOf22 szK) ?_ ?_
      · exact Sub.k
      · first | exact ⟨none, by rw [pairsR_top he]; rfl, rfl, by rw [pairsR_top he]; exact Row.ok0⟩ | exact ⟨none, by rw [pairsR_top he]; simp only [Bool.false_eq_true, if_false]; rw [hhd]; rfl, rfl, by rw [pairsR_top he]; exact Row.ok0⟩ | exact ⟨some rn, by rw [pairsR_left hm1 (by omega) hl]; rw [List.length_append]; rfl, rfl, by rw [pairsR_left hm1 (by omega) hl]; rw [List.length_append, fp_append]; exact hrn⟩ | exact ⟨some rn, by rw [pairsR_right hm1 (by omega) hl]; rw [List.length_append]; rfl, rfl, by rw [pairsR_right hm1 (by omega) hl]; rw [List.length_append, fp_append]; exact hrn⟩
  · -- t21 False
    replace hc1 := of_decide_eq_false hc1
    have h2 : 2 ≤ n := by omega
    have hbl := bel_lt h2
    have hbp := bel_pos n
    obtain ⟨q, y, rfl, hq⟩ : ∃ q y, ds = q ++ [y] ∧ q.length + 1 = stepsC m n fr := by obtain ⟨k, hk⟩ := stepsC_succ (fr := fr) hm1 (show m < n by omega); obtain ⟨q, y, h3, h4⟩ := ends_ex (p := ds) (k := k) (by omega); exact ⟨q, y, h3, by omega⟩
    have hql : (q ++ [y]).length = q.length + 1 := by simp
    have hle := hd.le
    have hsl := stepsC_le n m n fr (Nat.le_refl _) hm1 hm2
    obtain ⟨a, rfl⟩ := Cs.get_some hd (by omega)
    have hy0 : (q ++ [y])[q.length]? = some y := by simp
    refine JC.skip ?_
    refine JQ.thenN ?_
    refine JC.seq ?_
    refine JC.region ?_
    refine JL.mv ?_
    refine JL.callV rfl (.none rfl) rfl Tryd.call56 (fun w1 hw1 => lbelow_any n (by omega) (by omega) w1) ?_
    refine JL.asg ?_
    refine JL.nil ?_
    refine JQ.thenN ?_
    refine JC.seq ?_
    refine JC.cut (X := Nat) (fun b14 => [(0, .int .i64 (m : Int)), (1, .int .i64 (n : Int)), (2, .bool fr), (4, .slice (some a) (q ++ [y]).length cap), (8, .pointer (some ⟨b8, 0, none⟩)), (11, .pointer (some ⟨b11, 0, none⟩)), (12, .int .i64 ((bel n : Nat) : Int)), (13, .slice (some a) q.length cap), (14, .pointer (some ⟨b14, 0, none⟩))]) (fun b14 => [(b14, Obj.cells (arr8 y.1) 22 (0, 0)), (b11, Obj.cells (arr8 (List.replicate 32 0)) 22 (0, 0)), (b8, Obj.cells (arr8 x.1) 22 (0, 0))]) ?_ ?_
    · refine JC.regionA (by kernel_rfl) ?_
      refine JA.tkc 0 rfl (.none rfl) (fun _ => (Ev.move rfl)) ?_
      refine JA.tkc 1 rfl (.none rfl) (fun _ => (Ev.move rfl)) ?_
      refine JA.tkc 5 rfl (.none rfl) (fun _ => (Ev.move rfl)) ?_
      refine JA.tkc 6 rfl (.none rfl) (fun _ => (Ev.move rfl)) ?_
      refine JA.branch [2, 7, 11] (by kernel_rfl) rfl ?_
      refine JAll.cons rfl ?_ ?_
      · -- 2
        refine JO.val rfl rfl rfl (.none rfl) (Ev.lenS rfl Tryd.underlying23) ?_
        refine JA.tkc 3 rfl (.none rfl) (fun _ => (Ev.bin rfl rfl (sub_i64 (by omega)))) ?_
        refine JA.tkc 4 rfl (.none rfl) (fun _ => (Ev.cast (v' := .slice (some a) q.length cap) (sub3_0) (Ev.sliceHi rfl rfl Tryd.underlying23 Tryd.sizeOf22 (h := q.length) (by omega) (by have := hd.le; omega)))) ?_
        refine JA.branch [7, 11] (by kernel_rfl) rfl ?_
        refine JAll.cons rfl ?_ ?_
        · -- 7
          refine JO.val rfl rfl rfl (.none rfl) (Ev.lenS rfl Tryd.underlying23) ?_
          refine JA.tkc 8 rfl (.none rfl) (fun _ => (Ev.bin rfl rfl (sub_i64 (by omega)))) ?_
          refine JA.tkc 9 rfl (.none rfl) (fun _ => (Ev.idxS rfl rfl Tryd.underlying23 Tryd.sizeOf22 (k := q.length) (by omega) (by omega))) ?_
          refine JA.branch [10, 11] (by kernel_rfl) rfl ?_
          refine JAll.cons rfl ?_ ?_
          · -- 10
            refine JO.val rfl rfl rfl (.none rfl) (Ev.loadD rfl Tryd.underlying22 rfl Tryd.sizeOf22 (Rds.old ((hd.mem a rfl).atD hy0))) ?_
            refine JA.one 11 ?_
            refine JO.new rfl rfl rfl (.none rfl) (En.allocZ (cs := arr8 (List.replicate 32 0)) Tryd.zeroValue22 rfl) (fun b14 hb14 => ?_)
            refine JA.tkc 12 rfl (.none rfl) (fun _ => (Ev.assign rfl)) ?_
            refine JA.one 13 ?_
            refine JO.sto rfl rfl (.none rfl) (Es.sA Tryd.sizeOf22) ?_
            refine JA.done (by kernel_rfl) ?_
            refine JQ.cutN b14 ?_ ?_
            · exact Keeps.k
            · exact Sub.k
          refine JAll.cons rfl ?_ JAll.nil
          refine JO.new rfl rfl rfl (.none rfl) (En.allocZ (cs := arr8 (List.replicate 32 0)) Tryd.zeroValue22 rfl) (fun b14 hb14 => ?_)
          refine JA.tkc 12 rfl (.none rfl) (fun _ => (Ev.assign rfl)) ?_
          refine JA.one 10 ?_
          refine JO.val rfl rfl rfl (.none rfl) (Ev.loadD rfl Tryd.underlying22 rfl Tryd.sizeOf22 (Rds.old ((hd.mem a rfl).atD hy0))) ?_
          refine JA.one 13 ?_
          refine JO.sto rfl rfl (.none rfl) (Es.sA Tryd.sizeOf22) ?_
          refine JA.done (by kernel_rfl) ?_
          refine JQ.cutN b14 ?_ ?_
          · exact Keeps.k
          · exact Sub.k
        refine JAll.cons rfl ?_ JAll.nil
        refine JO.new rfl rfl rfl (.none rfl) (En.allocZ (cs := arr8 (List.replicate 32 0)) Tryd.zeroValue22 rfl) (fun b14 hb14 => ?_)
        refine JA.tkc 12 rfl (.none rfl) (fun _ => (Ev.assign rfl)) ?_
        refine JA.one 7 ?_
        refine JO.val rfl rfl rfl (.none rfl) (Ev.lenS rfl Tryd.underlying23) ?_
        refine JA.tkc 8 rfl (.none rfl) (fun _ => (Ev.bin rfl rfl (sub_i64 (by omega)))) ?_
        refine JA.tkc 9 rfl (.none rfl) (fun _ => (Ev.idxS rfl rfl Tryd.underlying23 Tryd.sizeOf22 (k := q.length) (by omega) (by omega))) ?_
        refine JA.one 10 ?_
        refine JO.val rfl rfl rfl (.none rfl) (Ev.loadD rfl Tryd.underlying22 rfl Tryd.sizeOf22 (Rds.old ((hd.mem a rfl).atD hy0))) ?_
        refine JA.one 13 ?_
        refine JO.sto rfl rfl (.none rfl) (Es.sA Tryd.sizeOf22) ?_
        refine JA.done (by kernel_rfl) ?_
        refine JQ.cutN b14 ?_ ?_
        · exact Keeps.k
        · exact Sub.k
      refine JAll.cons rfl ?_ ?_
      · -- 7
        refine JO.val rfl rfl rfl (.none rfl) (Ev.lenS rfl Tryd.underlying23) ?_
        refine JA.tkc 8 rfl (.none rfl) (fun _ => (Ev.bin rfl rfl (sub_i64 (by omega)))) ?_
        refine JA.tkc 9 rfl (.none rfl) (fun _ => (Ev.idxS rfl rfl Tryd.underlying23 Tryd.sizeOf22 (k := q.length) (by omega) (by omega))) ?_
        refine JA.branch [2, 10, 11] (by kernel_rfl) rfl ?_
        refine JAll.cons rfl ?_ ?_
        · -- 2
          refine JO.val rfl rfl rfl (.none rfl) (Ev.lenS rfl Tryd.underlying23) ?_
          refine JA.tkc 3 rfl (.none rfl) (fun _ => (Ev.bin rfl rfl (sub_i64 (by omega)))) ?_
          refine JA.tkc 4 rfl (.none rfl) (fun _ => (Ev.cast (v' := .slice (some a) q.length cap) (sub3_0) (Ev.sliceHi rfl rfl Tryd.underlying23 Tryd.sizeOf22 (h := q.length) (by omega) (by have := hd.le; omega)))) ?_
          refine JA.branch [10, 11] (by kernel_rfl) rfl ?_
          refine JAll.cons rfl ?_ ?_
          · -- 10
            refine JO.val rfl rfl rfl (.none rfl) (Ev.loadD rfl Tryd.underlying22 rfl Tryd.sizeOf22 (Rds.old ((hd.mem a rfl).atD hy0))) ?_
            refine JA.one 11 ?_
            refine JO.new rfl rfl rfl (.none rfl) (En.allocZ (cs := arr8 (List.replicate 32 0)) Tryd.zeroValue22 rfl) (fun b14 hb14 => ?_)
            refine JA.tkc 12 rfl (.none rfl) (fun _ => (Ev.assign rfl)) ?_
            refine JA.one 13 ?_
            refine JO.sto rfl rfl (.none rfl) (Es.sA Tryd.sizeOf22) ?_
            refine JA.done (by kernel_rfl) ?_
            refine JQ.cutN b14 ?_ ?_
            · exact Keeps.k
            · exact Sub.k
          refine JAll.cons rfl ?_ JAll.nil
          refine JO.new rfl rfl rfl (.none rfl) (En.allocZ (cs := arr8 (List.replicate 32 0)) Tryd.zeroValue22 rfl) (fun b14 hb14 => ?_)
          refine JA.tkc 12 rfl (.none rfl) (fun _ => (Ev.assign rfl)) ?_
          refine JA.one 10 ?_
          refine JO.val rfl rfl rfl (.none rfl) (Ev.loadD rfl Tryd.underlying22 rfl Tryd.sizeOf22 (Rds.old ((hd.mem a rfl).atD hy0))) ?_
          refine JA.one 13 ?_
          refine JO.sto rfl rfl (.none rfl) (Es.sA Tryd.sizeOf22) ?_
          refine JA.done (by kernel_rfl) ?_
          refine JQ.cutN b14 ?_ ?_
          · exact Keeps.k
          · exact Sub.k
        refine JAll.cons rfl ?_ ?_
        · -- 10
          refine JO.val rfl rfl rfl (.none rfl) (Ev.loadD rfl Tryd.underlying22 rfl Tryd.sizeOf22 (Rds.old ((hd.mem a rfl).atD hy0))) ?_
          refine JA.branch [2, 11] (by kernel_rfl) rfl ?_
          refine JAll.cons rfl ?_ ?_
          · -- 2
            refine JO.val rfl rfl rfl (.none rfl) (Ev.lenS rfl Tryd.underlying23) ?_
            refine JA.tkc 3 rfl (.none rfl) (fun _ => (Ev.bin rfl rfl (sub_i64 (by omega)))) ?_
            refine JA.tkc 4 rfl (.none rfl) (fun _ => (Ev.cast (v' := .slice (some a) q.length cap) (sub3_0) (Ev.sliceHi rfl rfl Tryd.underlying23 Tryd.sizeOf22 (h := q.length) (by omega) (by have := hd.le; omega)))) ?_
            refine JA.one 11 ?_
            refine JO.new rfl rfl rfl (.none rfl) (En.allocZ (cs := arr8 (List.replicate 32 0)) Tryd.zeroValue22 rfl) (fun b14 hb14 => ?_)
            refine JA.tkc 12 rfl (.none rfl) (fun _ => (Ev.assign rfl)) ?_
            refine JA.one 13 ?_
            refine JO.sto rfl rfl (.none rfl) (Es.sA Tryd.sizeOf22) ?_
            refine JA.done (by kernel_rfl) ?_
            refine JQ.cutN b14 ?_ ?_
            · exact Keeps.k
            · exact Sub.k
          refine JAll.cons rfl ?_ JAll.nil
          refine JO.new rfl rfl rfl (.none rfl) (En.allocZ (cs := arr8 (List.replicate 32 0)) Tryd.zeroValue22 rfl) (fun b14 hb14 => ?_)
          refine JA.one 2 ?_
          refine JO.val rfl rfl rfl (.none rfl) (Ev.lenS rfl Tryd.underlying23) ?_
          refine JA.tkc 3 rfl (.none rfl) (fun _ => (Ev.bin rfl rfl (sub_i64 (by omega)))) ?_
          refine JA.tkc 4 rfl (.none rfl) (fun _ => (Ev.cast (v' := .slice (some a) q.length cap) (sub3_0) (Ev.sliceHi rfl rfl Tryd.underlying23 Tryd.sizeOf22 (h := q.length) (by omega) (by have := hd.le; omega)))) ?_
          refine JA.tkc 12 rfl (.none rfl) (fun _ => (Ev.assign rfl)) ?_
          refine JA.one 13 ?_
          refine JO.sto rfl rfl (.none rfl) (Es.sA Tryd.sizeOf22) ?_
          refine JA.done (by kernel_rfl) ?_
          refine JQ.cutN b14 ?_ ?_
          · exact Keeps.k
          · exact Sub.k
        refine JAll.cons rfl ?_ JAll.nil
        refine JO.new rfl rfl rfl (.none rfl) (En.allocZ (cs := arr8 (List.replicate 32 0)) Tryd.zeroValue22 rfl) (fun b14 hb14 => ?_)
        refine JA.branch [2, 10] (by kernel_rfl) rfl ?_
        refine JAll.cons rfl ?_ ?_
        · -- 2
          refine JO.val rfl rfl rfl (.none rfl) (Ev.lenS rfl Tryd.underlying23) ?_
          refine JA.tkc 3 rfl (.none rfl) (fun _ => (Ev.bin rfl rfl (sub_i64 (by omega)))) ?_
          refine JA.tkc 4 rfl (.none rfl) (fun _ => (Ev.cast (v' := .slice (some a) q.length cap) (sub3_0) (Ev.sliceHi rfl rfl Tryd.underlying23 Tryd.sizeOf22 (h := q.length) (by omega) (by have := hd.le; omega)))) ?_
          refine JA.tkc 12 rfl (.none rfl) (fun _ => (Ev.assign rfl)) ?_
          refine JA.one 10 ?_
          refine JO.val rfl rfl rfl (.none rfl) (Ev.loadD rfl Tryd.underlying22 rfl Tryd.sizeOf22 (Rds.old ((hd.mem a rfl).atD hy0))) ?_
          refine JA.one 13 ?_
          refine JO.sto rfl rfl (.none rfl) (Es.sA Tryd.sizeOf22) ?_
          refine JA.done (by kernel_rfl) ?_
          refine JQ.cutN b14 ?_ ?_
          · exact Keeps.k
          · exact Sub.k
        refine JAll.cons rfl ?_ JAll.nil
        refine JO.val rfl rfl rfl (.none rfl) (Ev.loadD rfl Tryd.underlying22 rfl Tryd.sizeOf22 (Rds.old ((hd.mem a rfl).atD hy0))) ?_
        refine JA.one 2 ?_
        refine JO.val rfl rfl rfl (.none rfl) (Ev.lenS rfl Tryd.underlying23) ?_
        refine JA.tkc 3 rfl (.none rfl) (fun _ => (Ev.bin rfl rfl (sub_i64 (by omega)))) ?_
        refine JA.tkc 4 rfl (.none rfl) (fun _ => (Ev.cast (v' := .slice (some a) q.length cap) (sub3_0) (Ev.sliceHi rfl rfl Tryd.underlying23 Tryd.sizeOf22 (h := q.length) (by omega) (by have := hd.le; omega)))) ?_
        refine JA.tkc 12 rfl (.none rfl) (fun _ => (Ev.assign rfl)) ?_
        refine JA.one 13 ?_
        refine JO.sto rfl rfl (.none rfl) (Es.sA Tryd.sizeOf22) ?_
        refine JA.done (by kernel_rfl) ?_
        refine JQ.cutN b14 ?_ ?_
        · exact Keeps.k
        · exact Sub.k
      refine JAll.cons rfl ?_ JAll.nil
      refine JO.new rfl rfl rfl (.none rfl) (En.allocZ (cs := arr8 (List.replicate 32 0)) Tryd.zeroValue22 rfl) (fun b14 hb14 => ?_)
      refine JA.branch [2, 7] (by kernel_rfl) rfl ?_
      refine JAll.cons rfl ?_ ?_
      · -- 2
        refine JO.val rfl rfl rfl (.none rfl) (Ev.lenS rfl Tryd.underlying23) ?_
        refine JA.tkc 3 rfl (.none rfl) (fun _ => (Ev.bin rfl rfl (sub_i64 (by omega)))) ?_
        refine JA.tkc 4 rfl (.none rfl) (fun _ => (Ev.cast (v' := .slice (some a) q.length cap) (sub3_0) (Ev.sliceHi rfl rfl Tryd.underlying23 Tryd.sizeOf22 (h := q.length) (by omega) (by have := hd.le; omega)))) ?_
        refine JA.tkc 12 rfl (.none rfl) (fun _ => (Ev.assign rfl)) ?_
        refine JA.one 7 ?_
        refine JO.val rfl rfl rfl (.none rfl) (Ev.lenS rfl Tryd.underlying23) ?_
        refine JA.tkc 8 rfl (.none rfl) (fun _ => (Ev.bin rfl rfl (sub_i64 (by omega)))) ?_
        refine JA.tkc 9 rfl (.none rfl) (fun _ => (Ev.idxS rfl rfl Tryd.underlying23 Tryd.sizeOf22 (k := q.length) (by omega) (by omega))) ?_
        refine JA.one 10 ?_
        refine JO.val rfl rfl rfl (.none rfl) (Ev.loadD rfl Tryd.underlying22 rfl Tryd.sizeOf22 (Rds.old ((hd.mem a rfl).atD hy0))) ?_
        refine JA.one 13 ?_
        refine JO.sto rfl rfl (.none rfl) (Es.sA Tryd.sizeOf22) ?_
        refine JA.done (by kernel_rfl) ?_
        refine JQ.cutN b14 ?_ ?_
        · exact Keeps.k
        · exact Sub.k
      refine JAll.cons rfl ?_ JAll.nil
      refine JO.val rfl rfl rfl (.none rfl) (Ev.lenS rfl Tryd.underlying23) ?_
      refine JA.tkc 8 rfl (.none rfl) (fun _ => (Ev.bin rfl rfl (sub_i64 (by omega)))) ?_
      refine JA.tkc 9 rfl (.none rfl) (fun _ => (Ev.idxS rfl rfl Tryd.underlying23 Tryd.sizeOf22 (k := q.length) (by omega) (by omega))) ?_
      refine JA.branch [2, 10] (by kernel_rfl) rfl ?_
      refine JAll.cons rfl ?_ ?_
      · -- 2
        refine JO.val rfl rfl rfl (.none rfl) (Ev.lenS rfl Tryd.underlying23) ?_
        refine JA.tkc 3 rfl (.none rfl) (fun _ => (Ev.bin rfl rfl (sub_i64 (by omega)))) ?_
        refine JA.tkc 4 rfl (.none rfl) (fun _ => (Ev.cast (v' := .slice (some a) q.length cap) (sub3_0) (Ev.sliceHi rfl rfl Tryd.underlying23 Tryd.sizeOf22 (h := q.length) (by omega) (by have := hd.le; omega)))) ?_
        refine JA.tkc 12 rfl (.none rfl) (fun _ => (Ev.assign rfl)) ?_
        refine JA.one 10 ?_
        refine JO.val rfl rfl rfl (.none rfl) (Ev.loadD rfl Tryd.underlying22 rfl Tryd.sizeOf22 (Rds.old ((hd.mem a rfl).atD hy0))) ?_
        refine JA.one 13 ?_
        refine JO.sto rfl rfl (.none rfl) (Es.sA Tryd.sizeOf22) ?_
        refine JA.done (by kernel_rfl) ?_
        refine JQ.cutN b14 ?_ ?_
        · exact Keeps.k
        · exact Sub.k
      refine JAll.cons rfl ?_ JAll.nil
      refine JO.val rfl rfl rfl (.none rfl) (Ev.loadD rfl Tryd.underlying22 rfl Tryd.sizeOf22 (Rds.old ((hd.mem a rfl).atD hy0))) ?_
      refine JA.one 2 ?_
      refine JO.val rfl rfl rfl (.none rfl) (Ev.lenS rfl Tryd.underlying23) ?_
      refine JA.tkc 3 rfl (.none rfl) (fun _ => (Ev.bin rfl rfl (sub_i64 (by omega)))) ?_
      refine JA.tkc 4 rfl (.none rfl) (fun _ => (Ev.cast (v' := .slice (some a) q.length cap) (sub3_0) (Ev.sliceHi rfl rfl Tryd.underlying23 Tryd.sizeOf22 (h := q.length) (by omega) (by have := hd.le; omega)))) ?_
      refine JA.tkc 12 rfl (.none rfl) (fun _ => (Ev.assign rfl)) ?_
      refine JA.one 13 ?_
      refine JO.sto rfl rfl (.none rfl) (Es.sA Tryd.sizeOf22) ?_
      refine JA.done (by kernel_rfl) ?_
      refine JQ.cutN b14 ?_ ?_
      · exact Keeps.k
      · exact Sub.k
    rintro b14
    refine JQ.thenN ?_
    refine JC.seq ?_
    refine JC.seq ?_
    refine JC.region ?_
    refine JL.mv ?_
    refine JL.mv ?_
    refine JL.val rfl rfl rfl (.none rfl) (Ev.bin rfl rfl leq_int) ?_
    refine JL.nil ?_
    refine JQ.thenN ?_
    refine JC.cond rfl (fun hc2 => ?_) (fun hc2 => ?_)
    · -- t42 True
      replace hc2 := of_decide_eq_true hc2
      have hl : m ≤ bel n := by omega
      have hsq : q.length = stepsC m (bel n) fr := by have := stepsC_left (fr := fr) hm1 (show m < n by omega) hl; omega
      have hpl := pairsC_le (bel n) m (bel n) fr x q (Nat.le_refl _) hm1 hl
      refine JC.seq ?_
      refine JC.region ?_
      refine JL.mv ?_
      refine JL.mv ?_
      refine JL.mv ?_
      refine JL.val rfl rfl rfl (.none rfl) (Ev.lB Tryd.underlying22 Tryd.sizeOf22) ?_
      refine JL.mv ?_
      refine JL.callN rfl (.none rfl) rfl Tryd.call30 (fun w1 hw1 => ih x m (bel n) fr (some a) cap q w1 (by omega) (by omega) (by omega) (Dl.init (hd.old hw1)) hsq (hk.old hw1) (hf.old hw1) (by omega)) ?_
      rintro _ _ ⟨r1, rfl, rfl, hr1⟩
      refine JL.mv ?_
      refine JL.val rfl rfl rfl (.none rfl) (Ev.ex0 rfl) ?_
      refine JL.val rfl rfl rfl (.none rfl) (Ev.ex1 rfl) ?_
      refine JL.new rfl rfl rfl (.none rfl) (En.allocZ (cs := arr8 (List.replicate 32 0)) Tryd.zeroValue22 rfl) (fun b16 hb16 => ?_)
      refine JL.asg ?_
      refine JL.sto rfl rfl (.none rfl) (Es.sA Tryd.sizeOf22) ?_
      refine JL.nil ?_
      refine JQ.thenN ?_
      refine JC.seq ?_
      refine JC.regionA (by kernel_rfl) ?_
      refine JA.mid (X := Nat × {r : Row // Row.ok 64 ((pairsR m (bel n) fr x q).1.length + 1) (fp (pairsR m (bel n) fr x q).1 ++ fp [((pairsR m (bel n) fr x q).2, y)]) (some r)}) (fun _ => True) (fun ⟨bq, ⟨rn, hrn⟩⟩ => [(11, .pointer (some ⟨b11, 0, none⟩)), (14, .pointer (some ⟨b14, 0, none⟩)), (16, .pointer (some ⟨b16, 0, none⟩)), (52, Row.v (pairsR m (bel n) fr x q).1.length r1), (53, .agg (arr8 (pairsR m (bel n) fr x q).2.1)), (54, .agg (arr8 y.1)), (58, .agg (arr8 (pairsR m (bel n) fr x q).2.1)), (59, .agg (arr8 y.1)), (55, .agg (fp [((pairsR m (bel n) fr x q).2, y)]).toArray), (56, .slice (some ⟨bq, 0, none⟩) 1 1), (57, Row.v ((pairsR m (bel n) fr x q).1.length + 1) (some rn))]) (fun ⟨bq, ⟨rn, hrn⟩⟩ => [(bq, Obj.cells (fp [((pairsR m (bel n) fr x q).2, y)]).toArray 60 (0, 0)), (b16, Obj.cells (arr8 (pairsR m (bel n) fr x q).2.1) 22 (0, 0)), (b14, Obj.cells (arr8 y.1) 22 (0, 0)), (b11, Obj.cells (arr8 (List.replicate 32 0)) 22 (0, 0))] ++ Row.b 60 (some rn)) 3 #[true, true, true, true, true, true, true, true, false, false, false] ?_ (fun hmid0 => ?_)
      · -- state [0, 1, 2, 3, 4, 5, 6, 7]
        rintro ⟨bq, ⟨rn, hrn⟩⟩ hq
        refine JA.one 8 ?_
        refine JO.callV rfl (.none rfl) rfl Tryd.call48 (fun w1 hw1 => nodeG_any _ _ w1 (hk.old hw1) (hf.old hw1)) ?_
        refine JA.tk 9 rfl (.none rfl) (fun _ => (Ev.assign rfl)) ?_
        refine JA.one 10 ?_
        refine JO.sto rfl rfl (.none rfl) (Es.sA Tryd.sizeOf22) ?_
        refine JA.done (by kernel_rfl) ?_
        refine JQ.thenN ?_
        refine JC.ret ?_
        refine JQ.thenR ?_
        refine JQ.end2 (H' := (Row.b 60 (some rn))) (.inl rfl) rfl (.tmp rfl) (.agg rfl memK Tryd.underlying22 rfl Tryd.sizeOf22 szK) ?_ ?_
        · exact Sub.k
        · first | exact ⟨none, by rw [pairsR_top he]; rfl, rfl, by rw [pairsR_top he]; exact Row.ok0⟩ | exact ⟨none, by rw [pairsR_top he]; simp only [Bool.false_eq_true, if_false]; rw [hhd]; rfl, rfl, by rw [pairsR_top he]; exact Row.ok0⟩ | exact ⟨some rn, by rw [pairsR_left hm1 (by omega) hl]; rw [List.length_append]; rfl, rfl, by rw [pairsR_left hm1 (by omega) hl]; rw [List.length_append, fp_append]; exact hrn⟩ | exact ⟨some rn, by rw [pairsR_right hm1 (by omega) hl]; rw [List.length_append]; rfl, rfl, by rw [pairsR_right hm1 (by omega) hl]; rw [List.length_append, fp_append]; exact hrn⟩
      refine JA.mid (X := Nat × {r : Row // Row.ok 64 ((pairsR m (bel n) fr x q).1.length + 1) (fp (pairsR m (bel n) fr x q).1 ++ fp [((pairsR m (bel n) fr x q).2, y)]) (some r)}) (fun _ => True) (fun ⟨bq, ⟨rn, hrn⟩⟩ => [(11, .pointer (some ⟨b11, 0, none⟩)), (14, .pointer (some ⟨b14, 0, none⟩)), (16, .pointer (some ⟨b16, 0, none⟩)), (52, Row.v (pairsR m (bel n) fr x q).1.length r1), (53, .agg (arr8 (pairsR m (bel n) fr x q).2.1)), (54, .agg (arr8 y.1)), (58, .agg (arr8 (pairsR m (bel n) fr x q).2.1)), (55, .agg (fp [((pairsR m (bel n) fr x q).2, y)]).toArray), (56, .slice (some ⟨bq, 0, none⟩) 1 1), (57, Row.v ((pairsR m (bel n) fr x q).1.length + 1) (some rn))]) (fun ⟨bq, ⟨rn, hrn⟩⟩ => [(bq, Obj.cells (fp [((pairsR m (bel n) fr x q).2, y)]).toArray 60 (0, 0)), (b16, Obj.cells (arr8 (pairsR m (bel n) fr x q).2.1) 22 (0, 0)), (b14, Obj.cells (arr8 y.1) 22 (0, 0)), (b11, Obj.cells (arr8 (List.replicate 32 0)) 22 (0, 0))] ++ Row.b 60 (some rn)) 4 #[true, true, true, true, true, true, true, false, false, false, false] ?_ (fun hmid1 => ?_)
      · -- state [0, 1, 2, 3, 4, 5, 6]
        rintro ⟨bq, ⟨rn, hrn⟩⟩ hq
        refine JA.one 7 ?_
        refine JO.val rfl rfl rfl (.none rfl) (Ev.lB Tryd.underlying22 Tryd.sizeOf22) ?_
        exact JA.weak rfl (by kernel_rfl) (by exact Keeps.k) (by exact Sub.k) (hmid0 (bq, ⟨rn, hrn⟩) (by trivial))
      refine JA.mid (X := Nat × {r : Row // Row.ok 64 ((pairsR m (bel n) fr x q).1.length + 1) (fp (pairsR m (bel n) fr x q).1 ++ fp [((pairsR m (bel n) fr x q).2, y)]) (some r)}) (fun _ => True) (fun ⟨bq, ⟨rn, hrn⟩⟩ => [(11, .pointer (some ⟨b11, 0, none⟩)), (14, .pointer (some ⟨b14, 0, none⟩)), (16, .pointer (some ⟨b16, 0, none⟩)), (52, Row.v (pairsR m (bel n) fr x q).1.length r1), (53, .agg (arr8 (pairsR m (bel n) fr x q).2.1)), (54, .agg (arr8 y.1)), (59, .agg (arr8 y.1)), (55, .agg (fp [((pairsR m (bel n) fr x q).2, y)]).toArray), (56, .slice (some ⟨bq, 0, none⟩) 1 1), (57, Row.v ((pairsR m (bel n) fr x q).1.length + 1) (some rn))]) (fun ⟨bq, ⟨rn, hrn⟩⟩ => [(bq, Obj.cells (fp [((pairsR m (bel n) fr x q).2, y)]).toArray 60 (0, 0)), (b16, Obj.cells (arr8 (pairsR m (bel n) fr x q).2.1) 22 (0, 0)), (b14, Obj.cells (arr8 y.1) 22 (0, 0)), (b11, Obj.cells (arr8 (List.replicate 32 0)) 22 (0, 0))] ++ Row.b 60 (some rn)) 4 #[true, true, true, true, true, true, false, true, false, false, false] ?_ (fun hmid2 => ?_)
      · -- state [0, 1, 2, 3, 4, 5, 7]
        rintro ⟨bq, ⟨rn, hrn⟩⟩ hq
        refine JA.one 6 ?_
        refine JO.val rfl rfl rfl (.none rfl) (Ev.lB Tryd.underlying22 Tryd.sizeOf22) ?_
        exact JA.weak rfl (by kernel_rfl) (by exact Keeps.k) (by exact Sub.k) (hmid0 (bq, ⟨rn, hrn⟩) (by trivial))
      refine JA.mid (X := Nat × {r : Row // Row.ok 64 ((pairsR m (bel n) fr x q).1.length + 1) (fp (pairsR m (bel n) fr x q).1 ++ fp [((pairsR m (bel n) fr x q).2, y)]) (some r)}) (fun _ => True) (fun ⟨bq, ⟨rn, hrn⟩⟩ => [(11, .pointer (some ⟨b11, 0, none⟩)), (14, .pointer (some ⟨b14, 0, none⟩)), (16, .pointer (some ⟨b16, 0, none⟩)), (52, Row.v (pairsR m (bel n) fr x q).1.length r1), (53, .agg (arr8 (pairsR m (bel n) fr x q).2.1)), (54, .agg (arr8 y.1)), (55, .agg (fp [((pairsR m (bel n) fr x q).2, y)]).toArray), (56, .slice (some ⟨bq, 0, none⟩) 1 1), (57, Row.v ((pairsR m (bel n) fr x q).1.length + 1) (some rn))]) (fun ⟨bq, ⟨rn, hrn⟩⟩ => [(bq, Obj.cells (fp [((pairsR m (bel n) fr x q).2, y)]).toArray 60 (0, 0)), (b16, Obj.cells (arr8 (pairsR m (bel n) fr x q).2.1) 22 (0, 0)), (b14, Obj.cells (arr8 y.1) 22 (0, 0)), (b11, Obj.cells (arr8 (List.replicate 32 0)) 22 (0, 0))] ++ Row.b 60 (some rn)) 5 #[true, true, true, true, true, true, false, false, false, false, false] ?_ (fun hmid3 => ?_)
      · -- state [0, 1, 2, 3, 4, 5]
        rintro ⟨bq, ⟨rn, hrn⟩⟩ hq
        refine JA.branch [6, 7] (by kernel_rfl) rfl ?_
        refine JAll.cons rfl ?_ ?_
        · -- 6
          refine JO.val rfl rfl rfl (.none rfl) (Ev.lB Tryd.underlying22 Tryd.sizeOf22) ?_
          exact JA.weak rfl (by kernel_rfl) (by exact Keeps.k) (by exact Sub.k) (hmid1 (bq, ⟨rn, hrn⟩) (by trivial))
        refine JAll.cons rfl ?_ JAll.nil
        refine JO.val rfl rfl rfl (.none rfl) (Ev.lB Tryd.underlying22 Tryd.sizeOf22) ?_
        exact JA.weak rfl (by kernel_rfl) (by exact Keeps.k) (by exact Sub.k) (hmid2 (bq, ⟨rn, hrn⟩) (by trivial))
      refine JA.mid (X := Nat) (fun _ => True) (fun bq => [(11, .pointer (some ⟨b11, 0, none⟩)), (14, .pointer (some ⟨b14, 0, none⟩)), (16, .pointer (some ⟨b16, 0, none⟩)), (52, Row.v (pairsR m (bel n) fr x q).1.length r1), (53, .agg (arr8 (pairsR m (bel n) fr x q).2.1)), (54, .agg (arr8 y.1)), (58, .agg (arr8 (pairsR m (bel n) fr x q).2.1)), (59, .agg (arr8 y.1)), (55, .agg (fp [((pairsR m (bel n) fr x q).2, y)]).toArray), (56, .slice (some ⟨bq, 0, none⟩) 1 1)]) (fun bq => [(bq, Obj.cells (fp [((pairsR m (bel n) fr x q).2, y)]).toArray 60 (0, 0)), (b16, Obj.cells (arr8 (pairsR m (bel n) fr x q).2.1) 22 (0, 0)), (b14, Obj.cells (arr8 y.1) 22 (0, 0)), (b11, Obj.cells (arr8 (List.replicate 32 0)) 22 (0, 0))] ++ Row.b 60 r1) 4 #[true, true, true, true, true, false, true, true, false, false, false] ?_ (fun hmid4 => ?_)
      · -- state [0, 1, 2, 3, 4, 6, 7]
        rintro bq hq
        refine JA.one 5 ?_
        refine JO.gen rfl rfl rfl (.none rfl) (Eg.append1 (r := r1) (n := (pairsR m (bel n) fr x q).1.length) (xs := fp (pairsR m (bel n) fr x q).1) (news := fp [((pairsR m (bel n) fr x q).2, y)]) (z := (.agg (arr8 (List.replicate 64 0)))) (s := 64) (bytes := 64) rfl rfl rfl Cut.k Tryd.underlying56 (by kernel_rfl) rfl (by decide) (by decide) hr1 (Rds.all memK) (fp_length _) (by decide) (fp_one _) (by have := hpl; omega)) ?_
        rintro _ _ ⟨rn, rfl, rfl, hrn⟩
        exact JA.weak rfl (by kernel_rfl) (by exact Keeps.k) (by exact Sub.k) (hmid0 (bq, ⟨rn, hrn⟩) (by trivial))
      refine JA.mid (X := Nat) (fun _ => True) (fun bq => [(11, .pointer (some ⟨b11, 0, none⟩)), (14, .pointer (some ⟨b14, 0, none⟩)), (16, .pointer (some ⟨b16, 0, none⟩)), (52, Row.v (pairsR m (bel n) fr x q).1.length r1), (53, .agg (arr8 (pairsR m (bel n) fr x q).2.1)), (54, .agg (arr8 y.1)), (58, .agg (arr8 (pairsR m (bel n) fr x q).2.1)), (55, .agg (fp [((pairsR m (bel n) fr x q).2, y)]).toArray), (56, .slice (some ⟨bq, 0, none⟩) 1 1)]) (fun bq => [(bq, Obj.cells (fp [((pairsR m (bel n) fr x q).2, y)]).toArray 60 (0, 0)), (b16, Obj.cells (arr8 (pairsR m (bel n) fr x q).2.1) 22 (0, 0)), (b14, Obj.cells (arr8 y.1) 22 (0, 0)), (b11, Obj.cells (arr8 (List.replicate 32 0)) 22 (0, 0))] ++ Row.b 60 r1) 5 #[true, true, true, true, true, false, true, false, false, false, false] ?_ (fun hmid5 => ?_)
      · -- state [0, 1, 2, 3, 4, 6]
        rintro bq hq
        refine JA.branch [5, 7] (by kernel_rfl) rfl ?_
        refine JAll.cons rfl ?_ ?_
        · -- 5
          refine JO.gen rfl rfl rfl (.none rfl) (Eg.append1 (r := r1) (n := (pairsR m (bel n) fr x q).1.length) (xs := fp (pairsR m (bel n) fr x q).1) (news := fp [((pairsR m (bel n) fr x q).2, y)]) (z := (.agg (arr8 (List.replicate 64 0)))) (s := 64) (bytes := 64) rfl rfl rfl Cut.k Tryd.underlying56 (by kernel_rfl) rfl (by decide) (by decide) hr1 (Rds.all memK) (fp_length _) (by decide) (fp_one _) (by have := hpl; omega)) ?_
          rintro _ _ ⟨rn, rfl, rfl, hrn⟩
          exact JA.weak rfl (by kernel_rfl) (by exact Keeps.k) (by exact Sub.k) (hmid1 (bq, ⟨rn, hrn⟩) (by trivial))
        refine JAll.cons rfl ?_ JAll.nil
        refine JO.val rfl rfl rfl (.none rfl) (Ev.lB Tryd.underlying22 Tryd.sizeOf22) ?_
        exact JA.weak rfl (by kernel_rfl) (by exact Keeps.k) (by exact Sub.k) (hmid4 bq (by trivial))
      refine JA.mid (X := Nat) (fun _ => True) (fun bq => [(11, .pointer (some ⟨b11, 0, none⟩)), (14, .pointer (some ⟨b14, 0, none⟩)), (16, .pointer (some ⟨b16, 0, none⟩)), (52, Row.v (pairsR m (bel n) fr x q).1.length r1), (53, .agg (arr8 (pairsR m (bel n) fr x q).2.1)), (54, .agg (arr8 y.1)), (59, .agg (arr8 y.1)), (55, .agg (fp [((pairsR m (bel n) fr x q).2, y)]).toArray), (56, .slice (some ⟨bq, 0, none⟩) 1 1)]) (fun bq => [(bq, Obj.cells (fp [((pairsR m (bel n) fr x q).2, y)]).toArray 60 (0, 0)), (b16, Obj.cells (arr8 (pairsR m (bel n) fr x q).2.1) 22 (0, 0)), (b14, Obj.cells (arr8 y.1) 22 (0, 0)), (b11, Obj.cells (arr8 (List.replicate 32 0)) 22 (0, 0))] ++ Row.b 60 r1) 5 #[true, true, true, true, true, false, false, true, false, false, false] ?_ (fun hmid6 => ?_)
      · -- state [0, 1, 2, 3, 4, 7]
        rintro bq hq
        refine JA.branch [5, 6] (by kernel_rfl) rfl ?_
        refine JAll.cons rfl ?_ ?_
        · -- 5
          refine JO.gen rfl rfl rfl (.none rfl) (Eg.append1 (r := r1) (n := (pairsR m (bel n) fr x q).1.length) (xs := fp (pairsR m (bel n) fr x q).1) (news := fp [((pairsR m (bel n) fr x q).2, y)]) (z := (.agg (arr8 (List.replicate 64 0)))) (s := 64) (bytes := 64) rfl rfl rfl Cut.k Tryd.underlying56 (by kernel_rfl) rfl (by decide) (by decide) hr1 (Rds.all memK) (fp_length _) (by decide) (fp_one _) (by have := hpl; omega)) ?_
          rintro _ _ ⟨rn, rfl, rfl, hrn⟩
          exact JA.weak rfl (by kernel_rfl) (by exact Keeps.k) (by exact Sub.k) (hmid2 (bq, ⟨rn, hrn⟩) (by trivial))
        refine JAll.cons rfl ?_ JAll.nil
        refine JO.val rfl rfl rfl (.none rfl) (Ev.lB Tryd.underlying22 Tryd.sizeOf22) ?_
        exact JA.weak rfl (by kernel_rfl) (by exact Keeps.k) (by exact Sub.k) (hmid4 bq (by trivial))
      refine JA.mid (X := Nat) (fun _ => True) (fun bq => [(11, .pointer (some ⟨b11, 0, none⟩)), (14, .pointer (some ⟨b14, 0, none⟩)), (16, .pointer (some ⟨b16, 0, none⟩)), (52, Row.v (pairsR m (bel n) fr x q).1.length r1), (53, .agg (arr8 (pairsR m (bel n) fr x q).2.1)), (54, .agg (arr8 y.1)), (55, .agg (fp [((pairsR m (bel n) fr x q).2, y)]).toArray), (56, .slice (some ⟨bq, 0, none⟩) 1 1)]) (fun bq => [(bq, Obj.cells (fp [((pairsR m (bel n) fr x q).2, y)]).toArray 60 (0, 0)), (b16, Obj.cells (arr8 (pairsR m (bel n) fr x q).2.1) 22 (0, 0)), (b14, Obj.cells (arr8 y.1) 22 (0, 0)), (b11, Obj.cells (arr8 (List.replicate 32 0)) 22 (0, 0))] ++ Row.b 60 r1) 6 #[true, true, true, true, true, false, false, false, false, false, false] ?_ (fun hmid7 => ?_)
      · -- state [0, 1, 2, 3, 4]
        rintro bq hq
        refine JA.branch [5, 6, 7] (by kernel_rfl) rfl ?_
        refine JAll.cons rfl ?_ ?_
        · -- 5
          refine JO.gen rfl rfl rfl (.none rfl) (Eg.append1 (r := r1) (n := (pairsR m (bel n) fr x q).1.length) (xs := fp (pairsR m (bel n) fr x q).1) (news := fp [((pairsR m (bel n) fr x q).2, y)]) (z := (.agg (arr8 (List.replicate 64 0)))) (s := 64) (bytes := 64) rfl rfl rfl Cut.k Tryd.underlying56 (by kernel_rfl) rfl (by decide) (by decide) hr1 (Rds.all memK) (fp_length _) (by decide) (fp_one _) (by have := hpl; omega)) ?_
          rintro _ _ ⟨rn, rfl, rfl, hrn⟩
          exact JA.weak rfl (by kernel_rfl) (by exact Keeps.k) (by exact Sub.k) (hmid3 (bq, ⟨rn, hrn⟩) (by trivial))
        refine JAll.cons rfl ?_ ?_
        · -- 6
          refine JO.val rfl rfl rfl (.none rfl) (Ev.lB Tryd.underlying22 Tryd.sizeOf22) ?_
          exact JA.weak rfl (by kernel_rfl) (by exact Keeps.k) (by exact Sub.k) (hmid5 bq (by trivial))
        refine JAll.cons rfl ?_ JAll.nil
        refine JO.val rfl rfl rfl (.none rfl) (Ev.lB Tryd.underlying22 Tryd.sizeOf22) ?_
        exact JA.weak rfl (by kernel_rfl) (by exact Keeps.k) (by exact Sub.k) (hmid6 bq (by trivial))
      refine JA.mid (X := Unit) (fun _ => True) (fun _ => [(11, .pointer (some ⟨b11, 0, none⟩)), (14, .pointer (some ⟨b14, 0, none⟩)), (16, .pointer (some ⟨b16, 0, none⟩)), (52, Row.v (pairsR m (bel n) fr x q).1.length r1), (53, .agg (arr8 (pairsR m (bel n) fr x q).2.1)), (54, .agg (arr8 y.1)), (58, .agg (arr8 (pairsR m (bel n) fr x q).2.1)), (59, .agg (arr8 y.1)), (55, .agg (fp [((pairsR m (bel n) fr x q).2, y)]).toArray)]) (fun _ => [(b16, Obj.cells (arr8 (pairsR m (bel n) fr x q).2.1) 22 (0, 0)), (b14, Obj.cells (arr8 y.1) 22 (0, 0)), (b11, Obj.cells (arr8 (List.replicate 32 0)) 22 (0, 0))] ++ Row.b 60 r1) 5 #[true, true, true, true, false, false, true, true, false, false, false] ?_ (fun hmid8 => ?_)
      · -- state [0, 1, 2, 3, 6, 7]
        rintro _ hq
        refine JA.one 4 ?_
        refine JO.new rfl rfl rfl (.none rfl) (En.bs1P rfl Tryd.underlying56 Tryd.sizeOf60 Tryd.zeroValue60) (fun b56 hb56 => ?_)
        obtain ⟨bq, rfl⟩ : ∃ b, b = b56 := ⟨_, rfl⟩
        exact JA.weak rfl (by kernel_rfl) (by exact Keeps.k) (by exact Sub.k) (hmid4 bq (by trivial))
      refine JA.mid (X := Unit) (fun _ => True) (fun _ => [(11, .pointer (some ⟨b11, 0, none⟩)), (14, .pointer (some ⟨b14, 0, none⟩)), (16, .pointer (some ⟨b16, 0, none⟩)), (52, Row.v (pairsR m (bel n) fr x q).1.length r1), (53, .agg (arr8 (pairsR m (bel n) fr x q).2.1)), (54, .agg (arr8 y.1)), (58, .agg (arr8 (pairsR m (bel n) fr x q).2.1)), (55, .agg (fp [((pairsR m (bel n) fr x q).2, y)]).toArray)]) (fun _ => [(b16, Obj.cells (arr8 (pairsR m (bel n) fr x q).2.1) 22 (0, 0)), (b14, Obj.cells (arr8 y.1) 22 (0, 0)), (b11, Obj.cells (arr8 (List.replicate 32 0)) 22 (0, 0))] ++ Row.b 60 r1) 6 #[true, true, true, true, false, false, true, false, false, false, false] ?_ (fun hmid9 => ?_)
      · -- state [0, 1, 2, 3, 6]
        rintro _ hq
        refine JA.branch [4, 7] (by kernel_rfl) rfl ?_
        refine JAll.cons rfl ?_ ?_
        · -- 4
          refine JO.new rfl rfl rfl (.none rfl) (En.bs1P rfl Tryd.underlying56 Tryd.sizeOf60 Tryd.zeroValue60) (fun b56 hb56 => ?_)
          obtain ⟨bq, rfl⟩ : ∃ b, b = b56 := ⟨_, rfl⟩
          exact JA.weak rfl (by kernel_rfl) (by exact Keeps.k) (by exact Sub.k) (hmid5 bq (by trivial))
        refine JAll.cons rfl ?_ JAll.nil
        refine JO.val rfl rfl rfl (.none rfl) (Ev.lB Tryd.underlying22 Tryd.sizeOf22) ?_
        exact JA.weak rfl (by kernel_rfl) (by exact Keeps.k) (by exact Sub.k) (hmid8 () (by trivial))
      refine JA.mid (X := Unit) (fun _ => True) (fun _ => [(11, .pointer (some ⟨b11, 0, none⟩)), (14, .pointer (some ⟨b14, 0, none⟩)), (16, .pointer (some ⟨b16, 0, none⟩)), (52, Row.v (pairsR m (bel n) fr x q).1.length r1), (53, .agg (arr8 (pairsR m (bel n) fr x q).2.1)), (54, .agg (arr8 y.1)), (59, .agg (arr8 y.1)), (55, .agg (fp [((pairsR m (bel n) fr x q).2, y)]).toArray)]) (fun _ => [(b16, Obj.cells (arr8 (pairsR m (bel n) fr x q).2.1) 22 (0, 0)), (b14, Obj.cells (arr8 y.1) 22 (0, 0)), (b11, Obj.cells (arr8 (List.replicate 32 0)) 22 (0, 0))] ++ Row.b 60 r1) 6 #[true, true, true, true, false, false, false, true, false, false, false] ?_ (fun hmid10 => ?_)
      · -- state [0, 1, 2, 3, 7]
        rintro _ hq
        refine JA.branch [4, 6] (by kernel_rfl) rfl ?_
        refine JAll.cons rfl ?_ ?_
        · -- 4
          refine JO.new rfl rfl rfl (.none rfl) (En.bs1P rfl Tryd.underlying56 Tryd.sizeOf60 Tryd.zeroValue60) (fun b56 hb56 => ?_)
          obtain ⟨bq, rfl⟩ : ∃ b, b = b56 := ⟨_, rfl⟩
          exact JA.weak rfl (by kernel_rfl) (by exact Keeps.k) (by exact Sub.k) (hmid6 bq (by trivial))
        refine JAll.cons rfl ?_ JAll.nil
        refine JO.val rfl rfl rfl (.none rfl) (Ev.lB Tryd.underlying22 Tryd.sizeOf22) ?_
        exact JA.weak rfl (by kernel_rfl) (by exact Keeps.k) (by exact Sub.k) (hmid8 () (by trivial))
      refine JA.mid (X := Unit) (fun _ => True) (fun _ => [(11, .pointer (some ⟨b11, 0, none⟩)), (14, .pointer (some ⟨b14, 0, none⟩)), (16, .pointer (some ⟨b16, 0, none⟩)), (52, Row.v (pairsR m (bel n) fr x q).1.length r1), (53, .agg (arr8 (pairsR m (bel n) fr x q).2.1)), (54, .agg (arr8 y.1)), (55, .agg (fp [((pairsR m (bel n) fr x q).2, y)]).toArray)]) (fun _ => [(b16, Obj.cells (arr8 (pairsR m (bel n) fr x q).2.1) 22 (0, 0)), (b14, Obj.cells (arr8 y.1) 22 (0, 0)), (b11, Obj.cells (arr8 (List.replicate 32 0)) 22 (0, 0))] ++ Row.b 60 r1) 7 #[true, true, true, true, false, false, false, false, false, false, false] ?_ (fun hmid11 => ?_)
      · -- state [0, 1, 2, 3]
        rintro _ hq
        refine JA.branch [4, 6, 7] (by kernel_rfl) rfl ?_
        refine JAll.cons rfl ?_ ?_
        · -- 4
          refine JO.new rfl rfl rfl (.none rfl) (En.bs1P rfl Tryd.underlying56 Tryd.sizeOf60 Tryd.zeroValue60) (fun b56 hb56 => ?_)
          obtain ⟨bq, rfl⟩ : ∃ b, b = b56 := ⟨_, rfl⟩
          exact JA.weak rfl (by kernel_rfl) (by exact Keeps.k) (by exact Sub.k) (hmid7 bq (by trivial))
        refine JAll.cons rfl ?_ ?_
        · -- 6
          refine JO.val rfl rfl rfl (.none rfl) (Ev.lB Tryd.underlying22 Tryd.sizeOf22) ?_
          exact JA.weak rfl (by kernel_rfl) (by exact Keeps.k) (by exact Sub.k) (hmid9 () (by trivial))
        refine JAll.cons rfl ?_ JAll.nil
        refine JO.val rfl rfl rfl (.none rfl) (Ev.lB Tryd.underlying22 Tryd.sizeOf22) ?_
        exact JA.weak rfl (by kernel_rfl) (by exact Keeps.k) (by exact Sub.k) (hmid10 () (by trivial))
      refine JA.mid (X := Unit) (fun _ => True) (fun _ => [(11, .pointer (some ⟨b11, 0, none⟩)), (14, .pointer (some ⟨b14, 0, none⟩)), (16, .pointer (some ⟨b16, 0, none⟩)), (52, Row.v (pairsR m (bel n) fr x q).1.length r1), (53, .agg (arr8 (pairsR m (bel n) fr x q).2.1)), (58, .agg (arr8 (pairsR m (bel n) fr x q).2.1)), (59, .agg (arr8 y.1))]) (fun _ => [(b16, Obj.cells (arr8 (pairsR m (bel n) fr x q).2.1) 22 (0, 0)), (b14, Obj.cells (arr8 y.1) 22 (0, 0)), (b11, Obj.cells (arr8 (List.replicate 32 0)) 22 (0, 0))] ++ Row.b 60 r1) 7 #[true, true, false, false, false, false, true, true, false, false, false] ?_ (fun hmid12 => ?_)
      · -- state [0, 1, 6, 7]
        rintro _ hq
        refine JA.one 2 ?_
        refine JO.val rfl rfl rfl (.none rfl) (Ev.lB Tryd.underlying22 Tryd.sizeOf22) ?_
        refine JA.one 3 ?_
        refine JO.val rfl rfl rfl (.none rfl) (Ev.buP rfl rfl Tryd.underlying60 Tryd.sizeOf22 Tryd.zeroValue60 rfl) ?_
        exact JA.weak rfl (by kernel_rfl) (by exact Keeps.k) (by exact Sub.k) (hmid8 () (by trivial))
      refine JA.mid (X := Unit) (fun _ => True) (fun _ => [(11, .pointer (some ⟨b11, 0, none⟩)), (14, .pointer (some ⟨b14, 0, none⟩)), (16, .pointer (some ⟨b16, 0, none⟩)), (52, Row.v (pairsR m (bel n) fr x q).1.length r1), (53, .agg (arr8 (pairsR m (bel n) fr x q).2.1)), (58, .agg (arr8 (pairsR m (bel n) fr x q).2.1))]) (fun _ => [(b16, Obj.cells (arr8 (pairsR m (bel n) fr x q).2.1) 22 (0, 0)), (b14, Obj.cells (arr8 y.1) 22 (0, 0)), (b11, Obj.cells (arr8 (List.replicate 32 0)) 22 (0, 0))] ++ Row.b 60 r1) 8 #[true, true, false, false, false, false, true, false, false, false, false] ?_ (fun hmid13 => ?_)
      · -- state [0, 1, 6]
        rintro _ hq
        refine JA.branch [2, 7] (by kernel_rfl) rfl ?_
        refine JAll.cons rfl ?_ ?_
        · -- 2
          refine JO.val rfl rfl rfl (.none rfl) (Ev.lB Tryd.underlying22 Tryd.sizeOf22) ?_
          refine JA.branch [3, 7] (by kernel_rfl) rfl ?_
          refine JAll.cons rfl ?_ ?_
          · -- 3
            refine JO.val rfl rfl rfl (.none rfl) (Ev.buP rfl rfl Tryd.underlying60 Tryd.sizeOf22 Tryd.zeroValue60 rfl) ?_
            exact JA.weak rfl (by kernel_rfl) (by exact Keeps.k) (by exact Sub.k) (hmid9 () (by trivial))
          refine JAll.cons rfl ?_ JAll.nil
          refine JO.val rfl rfl rfl (.none rfl) (Ev.lB Tryd.underlying22 Tryd.sizeOf22) ?_
          refine JA.one 3 ?_
          refine JO.val rfl rfl rfl (.none rfl) (Ev.buP rfl rfl Tryd.underlying60 Tryd.sizeOf22 Tryd.zeroValue60 rfl) ?_
          exact JA.weak rfl (by kernel_rfl) (by exact Keeps.k) (by exact Sub.k) (hmid8 () (by trivial))
        refine JAll.cons rfl ?_ JAll.nil
        refine JO.val rfl rfl rfl (.none rfl) (Ev.lB Tryd.underlying22 Tryd.sizeOf22) ?_
        exact JA.weak rfl (by kernel_rfl) (by exact Keeps.k) (by exact Sub.k) (hmid12 () (by trivial))
      refine JA.mid (X := Unit) (fun _ => True) (fun _ => [(11, .pointer (some ⟨b11, 0, none⟩)), (14, .pointer (some ⟨b14, 0, none⟩)), (16, .pointer (some ⟨b16, 0, none⟩)), (52, Row.v (pairsR m (bel n) fr x q).1.length r1), (53, .agg (arr8 (pairsR m (bel n) fr x q).2.1)), (59, .agg (arr8 y.1))]) (fun _ => [(b16, Obj.cells (arr8 (pairsR m (bel n) fr x q).2.1) 22 (0, 0)), (b14, Obj.cells (arr8 y.1) 22 (0, 0)), (b11, Obj.cells (arr8 (List.replicate 32 0)) 22 (0, 0))] ++ Row.b 60 r1) 8 #[true, true, false, false, false, false, false, true, false, false, false] ?_ (fun hmid14 => ?_)
      · -- state [0, 1, 7]
        rintro _ hq
        refine JA.branch [2, 6] (by kernel_rfl) rfl ?_
        refine JAll.cons rfl ?_ ?_
        · -- 2
          refine JO.val rfl rfl rfl (.none rfl) (Ev.lB Tryd.underlying22 Tryd.sizeOf22) ?_
          refine JA.branch [3, 6] (by kernel_rfl) rfl ?_
          refine JAll.cons rfl ?_ ?_
          · -- 3
            refine JO.val rfl rfl rfl (.none rfl) (Ev.buP rfl rfl Tryd.underlying60 Tryd.sizeOf22 Tryd.zeroValue60 rfl) ?_
            exact JA.weak rfl (by kernel_rfl) (by exact Keeps.k) (by exact Sub.k) (hmid10 () (by trivial))
          refine JAll.cons rfl ?_ JAll.nil
          refine JO.val rfl rfl rfl (.none rfl) (Ev.lB Tryd.underlying22 Tryd.sizeOf22) ?_
          refine JA.one 3 ?_
          refine JO.val rfl rfl rfl (.none rfl) (Ev.buP rfl rfl Tryd.underlying60 Tryd.sizeOf22 Tryd.zeroValue60 rfl) ?_
          exact JA.weak rfl (by kernel_rfl) (by exact Keeps.k) (by exact Sub.k) (hmid8 () (by trivial))
        refine JAll.cons rfl ?_ JAll.nil
        refine JO.val rfl rfl rfl (.none rfl) (Ev.lB Tryd.underlying22 Tryd.sizeOf22) ?_
        exact JA.weak rfl (by kernel_rfl) (by exact Keeps.k) (by exact Sub.k) (hmid12 () (by trivial))
      refine JA.mid (X := Unit) (fun _ => True) (fun _ => [(11, .pointer (some ⟨b11, 0, none⟩)), (14, .pointer (some ⟨b14, 0, none⟩)), (16, .pointer (some ⟨b16, 0, none⟩)), (52, Row.v (pairsR m (bel n) fr x q).1.length r1), (53, .agg (arr8 (pairsR m (bel n) fr x q).2.1))]) (fun _ => [(b16, Obj.cells (arr8 (pairsR m (bel n) fr x q).2.1) 22 (0, 0)), (b14, Obj.cells (arr8 y.1) 22 (0, 0)), (b11, Obj.cells (arr8 (List.replicate 32 0)) 22 (0, 0))] ++ Row.b 60 r1) 9 #[true, true, false, false, false, false, false, false, false, false, false] ?_ (fun hmid15 => ?_)
      · -- state [0, 1]
        rintro _ hq
        refine JA.branch [2, 6, 7] (by kernel_rfl) rfl ?_
        refine JAll.cons rfl ?_ ?_
        · -- 2
          refine JO.val rfl rfl rfl (.none rfl) (Ev.lB Tryd.underlying22 Tryd.sizeOf22) ?_
          refine JA.branch [3, 6, 7] (by kernel_rfl) rfl ?_
          refine JAll.cons rfl ?_ ?_
          · -- 3
            refine JO.val rfl rfl rfl (.none rfl) (Ev.buP rfl rfl Tryd.underlying60 Tryd.sizeOf22 Tryd.zeroValue60 rfl) ?_
            exact JA.weak rfl (by kernel_rfl) (by exact Keeps.k) (by exact Sub.k) (hmid11 () (by trivial))
          refine JAll.cons rfl ?_ ?_
          · -- 6
            refine JO.val rfl rfl rfl (.none rfl) (Ev.lB Tryd.underlying22 Tryd.sizeOf22) ?_
            refine JA.branch [3, 7] (by kernel_rfl) rfl ?_
            refine JAll.cons rfl ?_ ?_
            · -- 3
              refine JO.val rfl rfl rfl (.none rfl) (Ev.buP rfl rfl Tryd.underlying60 Tryd.sizeOf22 Tryd.zeroValue60 rfl) ?_
              exact JA.weak rfl (by kernel_rfl) (by exact Keeps.k) (by exact Sub.k) (hmid9 () (by trivial))
            refine JAll.cons rfl ?_ JAll.nil
            refine JO.val rfl rfl rfl (.none rfl) (Ev.lB Tryd.underlying22 Tryd.sizeOf22) ?_
            refine JA.one 3 ?_
            refine JO.val rfl rfl rfl (.none rfl) (Ev.buP rfl rfl Tryd.underlying60 Tryd.sizeOf22 Tryd.zeroValue60 rfl) ?_
            exact JA.weak rfl (by kernel_rfl) (by exact Keeps.k) (by exact Sub.k) (hmid8 () (by trivial))
          refine JAll.cons rfl ?_ JAll.nil
          refine JO.val rfl rfl rfl (.none rfl) (Ev.lB Tryd.underlying22 Tryd.sizeOf22) ?_
          refine JA.branch [3, 6] (by kernel_rfl) rfl ?_
          refine JAll.cons rfl ?_ ?_
          · -- 3
            refine JO.val rfl rfl rfl (.none rfl) (Ev.buP rfl rfl Tryd.underlying60 Tryd.sizeOf22 Tryd.zeroValue60 rfl) ?_
            exact JA.weak rfl (by kernel_rfl) (by exact Keeps.k) (by exact Sub.k) (hmid10 () (by trivial))
          refine JAll.cons rfl ?_ JAll.nil
          refine JO.val rfl rfl rfl (.none rfl) (Ev.lB Tryd.underlying22 Tryd.sizeOf22) ?_
          refine JA.one 3 ?_
          refine JO.val rfl rfl rfl (.none rfl) (Ev.buP rfl rfl Tryd.underlying60 Tryd.sizeOf22 Tryd.zeroValue60 rfl) ?_
          exact JA.weak rfl (by kernel_rfl) (by exact Keeps.k) (by exact Sub.k) (hmid8 () (by trivial))
        refine JAll.cons rfl ?_ ?_
        · -- 6
          refine JO.val rfl rfl rfl (.none rfl) (Ev.lB Tryd.underlying22 Tryd.sizeOf22) ?_
          exact JA.weak rfl (by kernel_rfl) (by exact Keeps.k) (by exact Sub.k) (hmid13 () (by trivial))
        refine JAll.cons rfl ?_ JAll.nil
        refine JO.val rfl rfl rfl (.none rfl) (Ev.lB Tryd.underlying22 Tryd.sizeOf22) ?_
        exact JA.weak rfl (by kernel_rfl) (by exact Keeps.k) (by exact Sub.k) (hmid14 () (by trivial))
      refine JA.mid (X := Unit) (fun _ => True) (fun _ => [(11, .pointer (some ⟨b11, 0, none⟩)), (14, .pointer (some ⟨b14, 0, none⟩)), (16, .pointer (some ⟨b16, 0, none⟩)), (52, Row.v (pairsR m (bel n) fr x q).1.length r1), (54, .agg (arr8 y.1)), (58, .agg (arr8 (pairsR m (bel n) fr x q).2.1)), (59, .agg (arr8 y.1))]) (fun _ => [(b16, Obj.cells (arr8 (pairsR m (bel n) fr x q).2.1) 22 (0, 0)), (b14, Obj.cells (arr8 y.1) 22 (0, 0)), (b11, Obj.cells (arr8 (List.replicate 32 0)) 22 (0, 0))] ++ Row.b 60 r1) 7 #[true, false, true, false, false, false, true, true, false, false, false] ?_ (fun hmid16 => ?_)
      · -- state [0, 2, 6, 7]
        rintro _ hq
        refine JA.one 1 ?_
        refine JO.val rfl rfl rfl (.none rfl) (Ev.lB Tryd.underlying22 Tryd.sizeOf22) ?_
        refine JA.one 3 ?_
        refine JO.val rfl rfl rfl (.none rfl) (Ev.buP rfl rfl Tryd.underlying60 Tryd.sizeOf22 Tryd.zeroValue60 rfl) ?_
        exact JA.weak rfl (by kernel_rfl) (by exact Keeps.k) (by exact Sub.k) (hmid8 () (by trivial))
      refine JA.mid (X := Unit) (fun _ => True) (fun _ => [(11, .pointer (some ⟨b11, 0, none⟩)), (14, .pointer (some ⟨b14, 0, none⟩)), (16, .pointer (some ⟨b16, 0, none⟩)), (52, Row.v (pairsR m (bel n) fr x q).1.length r1), (54, .agg (arr8 y.1)), (58, .agg (arr8 (pairsR m (bel n) fr x q).2.1))]) (fun _ => [(b16, Obj.cells (arr8 (pairsR m (bel n) fr x q).2.1) 22 (0, 0)), (b14, Obj.cells (arr8 y.1) 22 (0, 0)), (b11, Obj.cells (arr8 (List.replicate 32 0)) 22 (0, 0))] ++ Row.b 60 r1) 8 #[true, false, true, false, false, false, true, false, false, false, false] ?_ (fun hmid17 => ?_)
      · -- state [0, 2, 6]
        rintro _ hq
        refine JA.branch [1, 7] (by kernel_rfl) rfl ?_
        refine JAll.cons rfl ?_ ?_
        · -- 1
          refine JO.val rfl rfl rfl (.none rfl) (Ev.lB Tryd.underlying22 Tryd.sizeOf22) ?_
          refine JA.branch [3, 7] (by kernel_rfl) rfl ?_
          refine JAll.cons rfl ?_ ?_
          · -- 3
            refine JO.val rfl rfl rfl (.none rfl) (Ev.buP rfl rfl Tryd.underlying60 Tryd.sizeOf22 Tryd.zeroValue60 rfl) ?_
            exact JA.weak rfl (by kernel_rfl) (by exact Keeps.k) (by exact Sub.k) (hmid9 () (by trivial))
          refine JAll.cons rfl ?_ JAll.nil
          refine JO.val rfl rfl rfl (.none rfl) (Ev.lB Tryd.underlying22 Tryd.sizeOf22) ?_
          refine JA.one 3 ?_
          refine JO.val rfl rfl rfl (.none rfl) (Ev.buP rfl rfl Tryd.underlying60 Tryd.sizeOf22 Tryd.zeroValue60 rfl) ?_
          exact JA.weak rfl (by kernel_rfl) (by exact Keeps.k) (by exact Sub.k) (hmid8 () (by trivial))
        refine JAll.cons rfl ?_ JAll.nil
        refine JO.val rfl rfl rfl (.none rfl) (Ev.lB Tryd.underlying22 Tryd.sizeOf22) ?_
        exact JA.weak rfl (by kernel_rfl) (by exact Keeps.k) (by exact Sub.k) (hmid16 () (by trivial))
      refine JA.mid (X := Unit) (fun _ => True) (fun _ => [(11, .pointer (some ⟨b11, 0, none⟩)), (14, .pointer (some ⟨b14, 0, none⟩)), (16, .pointer (some ⟨b16, 0, none⟩)), (52, Row.v (pairsR m (bel n) fr x q).1.length r1), (54, .agg (arr8 y.1)), (59, .agg (arr8 y.1))]) (fun _ => [(b16, Obj.cells (arr8 (pairsR m (bel n) fr x q).2.1) 22 (0, 0)), (b14, Obj.cells (arr8 y.1) 22 (0, 0)), (b11, Obj.cells (arr8 (List.replicate 32 0)) 22 (0, 0))] ++ Row.b 60 r1) 8 #[true, false, true, false, false, false, false, true, false, false, false] ?_ (fun hmid18 => ?_)
      · -- state [0, 2, 7]
        rintro _ hq
        refine JA.branch [1, 6] (by kernel_rfl) rfl ?_
        refine JAll.cons rfl ?_ ?_
        · -- 1
          refine JO.val rfl rfl rfl (.none rfl) (Ev.lB Tryd.underlying22 Tryd.sizeOf22) ?_
          refine JA.branch [3, 6] (by kernel_rfl) rfl ?_
          refine JAll.cons rfl ?_ ?_
          · -- 3
            refine JO.val rfl rfl rfl (.none rfl) (Ev.buP rfl rfl Tryd.underlying60 Tryd.sizeOf22 Tryd.zeroValue60 rfl) ?_
            exact JA.weak rfl (by kernel_rfl) (by exact Keeps.k) (by exact Sub.k) (hmid10 () (by trivial))
          refine JAll.cons rfl ?_ JAll.nil
          refine JO.val rfl rfl rfl (.none rfl) (Ev.lB Tryd.underlying22 Tryd.sizeOf22) ?_
          refine JA.one 3 ?_
          refine JO.val rfl rfl rfl (.none rfl) (Ev.buP rfl rfl Tryd.underlying60 Tryd.sizeOf22 Tryd.zeroValue60 rfl) ?_
          exact JA.weak rfl (by kernel_rfl) (by exact Keeps.k) (by exact Sub.k) (hmid8 () (by trivial))
        refine JAll.cons rfl ?_ JAll.nil
        refine JO.val rfl rfl rfl (.none rfl) (Ev.lB Tryd.underlying22 Tryd.sizeOf22) ?_
        exact JA.weak rfl (by kernel_rfl) (by exact Keeps.k) (by exact Sub.k) (hmid16 () (by trivial))
      refine JA.mid (X := Unit) (fun _ => True) (fun _ => [(11, .pointer (some ⟨b11, 0, none⟩)), (14, .pointer (some ⟨b14, 0, none⟩)), (16, .pointer (some ⟨b16, 0, none⟩)), (52, Row.v (pairsR m (bel n) fr x q).1.length r1), (54, .agg (arr8 y.1))]) (fun _ => [(b16, Obj.cells (arr8 (pairsR m (bel n) fr x q).2.1) 22 (0, 0)), (b14, Obj.cells (arr8 y.1) 22 (0, 0)), (b11, Obj.cells (arr8 (List.replicate 32 0)) 22 (0, 0))] ++ Row.b 60 r1) 9 #[true, false, true, false, false, false, false, false, false, false, false] ?_ (fun hmid19 => ?_)
      · -- state [0, 2]
        rintro _ hq
        refine JA.branch [1, 6, 7] (by kernel_rfl) rfl ?_
        refine JAll.cons rfl ?_ ?_
        · -- 1
          refine JO.val rfl rfl rfl (.none rfl) (Ev.lB Tryd.underlying22 Tryd.sizeOf22) ?_
          refine JA.branch [3, 6, 7] (by kernel_rfl) rfl ?_
          refine JAll.cons rfl ?_ ?_
          · -- 3
            refine JO.val rfl rfl rfl (.none rfl) (Ev.buP rfl rfl Tryd.underlying60 Tryd.sizeOf22 Tryd.zeroValue60 rfl) ?_
            exact JA.weak rfl (by kernel_rfl) (by exact Keeps.k) (by exact Sub.k) (hmid11 () (by trivial))
          refine JAll.cons rfl ?_ ?_
          · -- 6
            refine JO.val rfl rfl rfl (.none rfl) (Ev.lB Tryd.underlying22 Tryd.sizeOf22) ?_
            refine JA.branch [3, 7] (by kernel_rfl) rfl ?_
            refine JAll.cons rfl ?_ ?_
            · -- 3
              refine JO.val rfl rfl rfl (.none rfl) (Ev.buP rfl rfl Tryd.underlying60 Tryd.sizeOf22 Tryd.zeroValue60 rfl) ?_
              exact JA.weak rfl (by kernel_rfl) (by exact Keeps.k) (by exact Sub.k) (hmid9 () (by trivial))
            refine JAll.cons rfl ?_ JAll.nil
            refine JO.val rfl rfl rfl (.none rfl) (Ev.lB Tryd.underlying22 Tryd.sizeOf22) ?_
            refine JA.one 3 ?_
            refine JO.val rfl rfl rfl (.none rfl) (Ev.buP rfl rfl Tryd.underlying60 Tryd.sizeOf22 Tryd.zeroValue60 rfl) ?_
            exact JA.weak rfl (by kernel_rfl) (by exact Keeps.k) (by exact Sub.k) (hmid8 () (by trivial))
          refine JAll.cons rfl ?_ JAll.nil
          refine JO.val rfl rfl rfl (.none rfl) (Ev.lB Tryd.underlying22 Tryd.sizeOf22) ?_
          refine JA.branch [3, 6] (by kernel_rfl) rfl ?_
          refine JAll.cons rfl ?_ ?_
          · -- 3
            refine JO.val rfl rfl rfl (.none rfl) (Ev.buP rfl rfl Tryd.underlying60 Tryd.sizeOf22 Tryd.zeroValue60 rfl) ?_
            exact JA.weak rfl (by kernel_rfl) (by exact Keeps.k) (by exact Sub.k) (hmid10 () (by trivial))
          refine JAll.cons rfl ?_ JAll.nil
          refine JO.val rfl rfl rfl (.none rfl) (Ev.lB Tryd.underlying22 Tryd.sizeOf22) ?_
          refine JA.one 3 ?_
          refine JO.val rfl rfl rfl (.none rfl) (Ev.buP rfl rfl Tryd.underlying60 Tryd.sizeOf22 Tryd.zeroValue60 rfl) ?_
          exact JA.weak rfl (by kernel_rfl) (by exact Keeps.k) (by exact Sub.k) (hmid8 () (by trivial))
        refine JAll.cons rfl ?_ ?_
        · -- 6
          refine JO.val rfl rfl rfl (.none rfl) (Ev.lB Tryd.underlying22 Tryd.sizeOf22) ?_
          exact JA.weak rfl (by kernel_rfl) (by exact Keeps.k) (by exact Sub.k) (hmid17 () (by trivial))
        refine JAll.cons rfl ?_ JAll.nil
        refine JO.val rfl rfl rfl (.none rfl) (Ev.lB Tryd.underlying22 Tryd.sizeOf22) ?_
        exact JA.weak rfl (by kernel_rfl) (by exact Keeps.k) (by exact Sub.k) (hmid18 () (by trivial))
      refine JA.mid (X := Unit) (fun _ => True) (fun _ => [(11, .pointer (some ⟨b11, 0, none⟩)), (14, .pointer (some ⟨b14, 0, none⟩)), (16, .pointer (some ⟨b16, 0, none⟩)), (52, Row.v (pairsR m (bel n) fr x q).1.length r1), (58, .agg (arr8 (pairsR m (bel n) fr x q).2.1)), (59, .agg (arr8 y.1))]) (fun _ => [(b16, Obj.cells (arr8 (pairsR m (bel n) fr x q).2.1) 22 (0, 0)), (b14, Obj.cells (arr8 y.1) 22 (0, 0)), (b11, Obj.cells (arr8 (List.replicate 32 0)) 22 (0, 0))] ++ Row.b 60 r1) 8 #[true, false, false, false, false, false, true, true, false, false, false] ?_ (fun hmid20 => ?_)
      · -- state [0, 6, 7]
        rintro _ hq
        refine JA.branch [1, 2] (by kernel_rfl) rfl ?_
        refine JAll.cons rfl ?_ ?_
        · -- 1
          refine JO.val rfl rfl rfl (.none rfl) (Ev.lB Tryd.underlying22 Tryd.sizeOf22) ?_
          exact JA.weak rfl (by kernel_rfl) (by exact Keeps.k) (by exact Sub.k) (hmid12 () (by trivial))
        refine JAll.cons rfl ?_ JAll.nil
        refine JO.val rfl rfl rfl (.none rfl) (Ev.lB Tryd.underlying22 Tryd.sizeOf22) ?_
        exact JA.weak rfl (by kernel_rfl) (by exact Keeps.k) (by exact Sub.k) (hmid16 () (by trivial))
      refine JA.mid (X := Unit) (fun _ => True) (fun _ => [(11, .pointer (some ⟨b11, 0, none⟩)), (14, .pointer (some ⟨b14, 0, none⟩)), (16, .pointer (some ⟨b16, 0, none⟩)), (52, Row.v (pairsR m (bel n) fr x q).1.length r1), (58, .agg (arr8 (pairsR m (bel n) fr x q).2.1))]) (fun _ => [(b16, Obj.cells (arr8 (pairsR m (bel n) fr x q).2.1) 22 (0, 0)), (b14, Obj.cells (arr8 y.1) 22 (0, 0)), (b11, Obj.cells (arr8 (List.replicate 32 0)) 22 (0, 0))] ++ Row.b 60 r1) 9 #[true, false, false, false, false, false, true, false, false, false, false] ?_ (fun hmid21 => ?_)
      · -- state [0, 6]
        rintro _ hq
        refine JA.branch [1, 2, 7] (by kernel_rfl) rfl ?_
        refine JAll.cons rfl ?_ ?_
        · -- 1
          refine JO.val rfl rfl rfl (.none rfl) (Ev.lB Tryd.underlying22 Tryd.sizeOf22) ?_
          exact JA.weak rfl (by kernel_rfl) (by exact Keeps.k) (by exact Sub.k) (hmid13 () (by trivial))
        refine JAll.cons rfl ?_ ?_
        · -- 2
          refine JO.val rfl rfl rfl (.none rfl) (Ev.lB Tryd.underlying22 Tryd.sizeOf22) ?_
          exact JA.weak rfl (by kernel_rfl) (by exact Keeps.k) (by exact Sub.k) (hmid17 () (by trivial))
        refine JAll.cons rfl ?_ JAll.nil
        refine JO.val rfl rfl rfl (.none rfl) (Ev.lB Tryd.underlying22 Tryd.sizeOf22) ?_
        exact JA.weak rfl (by kernel_rfl) (by exact Keeps.k) (by exact Sub.k) (hmid20 () (by trivial))
      refine JA.mid (X := Unit) (fun _ => True) (fun _ => [(11, .pointer (some ⟨b11, 0, none⟩)), (14, .pointer (some ⟨b14, 0, none⟩)), (16, .pointer (some ⟨b16, 0, none⟩)), (52, Row.v (pairsR m (bel n) fr x q).1.length r1), (59, .agg (arr8 y.1))]) (fun _ => [(b16, Obj.cells (arr8 (pairsR m (bel n) fr x q).2.1) 22 (0, 0)), (b14, Obj.cells (arr8 y.1) 22 (0, 0)), (b11, Obj.cells (arr8 (List.replicate 32 0)) 22 (0, 0))] ++ Row.b 60 r1) 9 #[true, false, false, false, false, false, false, true, false, false, false] ?_ (fun hmid22 => ?_)
      · -- state [0, 7]
        rintro _ hq
        refine JA.branch [1, 2, 6] (by kernel_rfl) rfl ?_
        refine JAll.cons rfl ?_ ?_
        · -- 1
          refine JO.val rfl rfl rfl (.none rfl) (Ev.lB Tryd.underlying22 Tryd.sizeOf22) ?_
          exact JA.weak rfl (by kernel_rfl) (by exact Keeps.k) (by exact Sub.k) (hmid14 () (by trivial))
        refine JAll.cons rfl ?_ ?_
        · -- 2
          refine JO.val rfl rfl rfl (.none rfl) (Ev.lB Tryd.underlying22 Tryd.sizeOf22) ?_
          exact JA.weak rfl (by kernel_rfl) (by exact Keeps.k) (by exact Sub.k) (hmid18 () (by trivial))
        refine JAll.cons rfl ?_ JAll.nil
        refine JO.val rfl rfl rfl (.none rfl) (Ev.lB Tryd.underlying22 Tryd.sizeOf22) ?_
        exact JA.weak rfl (by kernel_rfl) (by exact Keeps.k) (by exact Sub.k) (hmid20 () (by trivial))
      refine JA.tk 0 rfl (.none rfl) (fun _ => (Ev.move rfl)) ?_
      refine JA.branch [1, 2, 6, 7] (by kernel_rfl) rfl ?_
      refine JAll.cons rfl ?_ ?_
      · -- 1
        refine JO.val rfl rfl rfl (.none rfl) (Ev.lB Tryd.underlying22 Tryd.sizeOf22) ?_
        exact JA.weak rfl (by kernel_rfl) (by exact Keeps.k) (by exact Sub.k) (hmid15 () (by trivial))
      refine JAll.cons rfl ?_ ?_
      · -- 2
        refine JO.val rfl rfl rfl (.none rfl) (Ev.lB Tryd.underlying22 Tryd.sizeOf22) ?_
        exact JA.weak rfl (by kernel_rfl) (by exact Keeps.k) (by exact Sub.k) (hmid19 () (by trivial))
      refine JAll.cons rfl ?_ ?_
      · -- 6
        refine JO.val rfl rfl rfl (.none rfl) (Ev.lB Tryd.underlying22 Tryd.sizeOf22) ?_
        exact JA.weak rfl (by kernel_rfl) (by exact Keeps.k) (by exact Sub.k) (hmid21 () (by trivial))
      refine JAll.cons rfl ?_ JAll.nil
      refine JO.val rfl rfl rfl (.none rfl) (Ev.lB Tryd.underlying22 Tryd.sizeOf22) ?_
      exact JA.weak rfl (by kernel_rfl) (by exact Keeps.k) (by exact Sub.k) (hmid22 () (by trivial))
    · -- t42 False
      replace hc2 := of_decide_eq_false hc2
      have hl : ¬ m ≤ bel n := by omega
      have hsq : q.length = stepsC (m - bel n) (n - bel n) false := by have := stepsC_right (fr := fr) hm1 (show m < n by omega) hl; omega
      have hpl := pairsC_le (n - bel n) (m - bel n) (n - bel n) false x q (Nat.le_refl _) (by omega) (by omega)
      refine JC.skip ?_
      refine JQ.thenN ?_
      refine JC.seq ?_
      refine JC.region ?_
      refine JL.mv ?_
      refine JL.mv ?_
      refine JL.val rfl rfl rfl (.none rfl) (Ev.cast (v' := .int .i64 ((m - bel n : Nat) : Int)) (congrArg (Value.int .i64) (by omega)) (Ev.bin rfl rfl (sub_i64 (by omega)))) ?_
      refine JL.mv ?_
      refine JL.mv ?_
      refine JL.val rfl rfl rfl (.none rfl) (Ev.cast (v' := .int .i64 ((n - bel n : Nat) : Int)) (congrArg (Value.int .i64) (by omega)) (Ev.bin rfl rfl (sub_i64 (by omega)))) ?_
      refine JL.val rfl rfl rfl (.none rfl) (Ev.lB Tryd.underlying22 Tryd.sizeOf22) ?_
      refine JL.mv ?_
      refine JL.callN rfl (.none rfl) rfl Tryd.call30 (fun w1 hw1 => ih x (m - bel n) (n - bel n) false (some a) cap q w1 (by omega) (by omega) (by omega) (Dl.init (hd.old hw1)) hsq (hk.old hw1) (hf.old hw1) (by omega)) ?_
      rintro _ _ ⟨r1, rfl, rfl, hr1⟩
      refine JL.mv ?_
      refine JL.val rfl rfl rfl (.none rfl) (Ev.ex0 rfl) ?_
      refine JL.val rfl rfl rfl (.none rfl) (Ev.ex1 rfl) ?_
      refine JL.new rfl rfl rfl (.none rfl) (En.allocZ (cs := arr8 (List.replicate 32 0)) Tryd.zeroValue22 rfl) (fun b18 hb18 => ?_)
      refine JL.asg ?_
      refine JL.sto rfl rfl (.none rfl) (Es.sA Tryd.sizeOf22) ?_
      refine JL.nil ?_
      refine JQ.thenN ?_
      refine JC.seq ?_
      refine JC.regionA (by kernel_rfl) ?_
      refine JA.mid (X := Nat × {r : Row // Row.ok 64 ((pairsR (m - bel n) (n - bel n) false x q).1.length + 1) (fp (pairsR (m - bel n) (n - bel n) false x q).1 ++ fp [(y, (pairsR (m - bel n) (n - bel n) false x q).2)]) (some r)}) (fun _ => True) (fun ⟨bq, ⟨rn, hrn⟩⟩ => [(11, .pointer (some ⟨b11, 0, none⟩)), (14, .pointer (some ⟨b14, 0, none⟩)), (18, .pointer (some ⟨b18, 0, none⟩)), (73, Row.v (pairsR (m - bel n) (n - bel n) false x q).1.length r1), (74, .agg (arr8 y.1)), (75, .agg (arr8 (pairsR (m - bel n) (n - bel n) false x q).2.1)), (79, .agg (arr8 y.1)), (80, .agg (arr8 (pairsR (m - bel n) (n - bel n) false x q).2.1)), (76, .agg (fp [(y, (pairsR (m - bel n) (n - bel n) false x q).2)]).toArray), (77, .slice (some ⟨bq, 0, none⟩) 1 1), (78, Row.v ((pairsR (m - bel n) (n - bel n) false x q).1.length + 1) (some rn))]) (fun ⟨bq, ⟨rn, hrn⟩⟩ => [(bq, Obj.cells (fp [(y, (pairsR (m - bel n) (n - bel n) false x q).2)]).toArray 60 (0, 0)), (b18, Obj.cells (arr8 (pairsR (m - bel n) (n - bel n) false x q).2.1) 22 (0, 0)), (b14, Obj.cells (arr8 y.1) 22 (0, 0)), (b11, Obj.cells (arr8 (List.replicate 32 0)) 22 (0, 0))] ++ Row.b 60 (some rn)) 3 #[true, true, true, true, true, true, true, true, false, false, false] ?_ (fun hmid0 => ?_)
      · -- state [0, 1, 2, 3, 4, 5, 6, 7]
        rintro ⟨bq, ⟨rn, hrn⟩⟩ hq
        refine JA.one 8 ?_
        refine JO.callV rfl (.none rfl) rfl Tryd.call48 (fun w1 hw1 => nodeG_any _ _ w1 (hk.old hw1) (hf.old hw1)) ?_
        refine JA.tk 9 rfl (.none rfl) (fun _ => (Ev.assign rfl)) ?_
        refine JA.one 10 ?_
        refine JO.sto rfl rfl (.none rfl) (Es.sA Tryd.sizeOf22) ?_
        refine JA.done (by kernel_rfl) ?_
        refine JQ.thenN ?_
        refine JC.ret ?_
        refine JQ.end2 (H' := (Row.b 60 (some rn))) (.inl rfl) rfl (.tmp rfl) (.agg rfl memK Tryd.underlying22 rfl Tryd.sizeOf22 szK) ?_ ?_
        · exact Sub.k
        · first | exact ⟨none, by rw [pairsR_top he]; rfl, rfl, by rw [pairsR_top he]; exact Row.ok0⟩ | exact ⟨none, by rw [pairsR_top he]; simp only [Bool.false_eq_true, if_false]; rw [hhd]; rfl, rfl, by rw [pairsR_top he]; exact Row.ok0⟩ | exact ⟨some rn, by rw [pairsR_left hm1 (by omega) hl]; rw [List.length_append]; rfl, rfl, by rw [pairsR_left hm1 (by omega) hl]; rw [List.length_append, fp_append]; exact hrn⟩ | exact ⟨some rn, by rw [pairsR_right hm1 (by omega) hl]; rw [List.length_append]; rfl, rfl, by rw [pairsR_right hm1 (by omega) hl]; rw [List.length_append, fp_append]; exact hrn⟩
      refine JA.mid (X := Nat × {r : Row // Row.ok 64 ((pairsR (m - bel n) (n - bel n) false x q).1.length + 1) (fp (pairsR (m - bel n) (n - bel n) false x q).1 ++ fp [(y, (pairsR (m - bel n) (n - bel n) false x q).2)]) (some r)}) (fun _ => True) (fun ⟨bq, ⟨rn, hrn⟩⟩ => [(11, .pointer (some ⟨b11, 0, none⟩)), (14, .pointer (some ⟨b14, 0, none⟩)), (18, .pointer (some ⟨b18, 0, none⟩)), (73, Row.v (pairsR (m - bel n) (n - bel n) false x q).1.length r1), (74, .agg (arr8 y.1)), (75, .agg (arr8 (pairsR (m - bel n) (n - bel n) false x q).2.1)), (79, .agg (arr8 y.1)), (76, .agg (fp [(y, (pairsR (m - bel n) (n - bel n) false x q).2)]).toArray), (77, .slice (some ⟨bq, 0, none⟩) 1 1), (78, Row.v ((pairsR (m - bel n) (n - bel n) false x q).1.length + 1) (some rn))]) (fun ⟨bq, ⟨rn, hrn⟩⟩ => [(bq, Obj.cells (fp [(y, (pairsR (m - bel n) (n - bel n) false x q).2)]).toArray 60 (0, 0)), (b18, Obj.cells (arr8 (pairsR (m - bel n) (n - bel n) false x q).2.1) 22 (0, 0)), (b14, Obj.cells (arr8 y.1) 22 (0, 0)), (b11, Obj.cells (arr8 (List.replicate 32 0)) 22 (0, 0))] ++ Row.b 60 (some rn)) 4 #[true, true, true, true, true, true, true, false, false, false, false] ?_ (fun hmid1 => ?_)
      · -- state [0, 1, 2, 3, 4, 5, 6]
        rintro ⟨bq, ⟨rn, hrn⟩⟩ hq
        refine JA.one 7 ?_
        refine JO.val rfl rfl rfl (.none rfl) (Ev.lB Tryd.underlying22 Tryd.sizeOf22) ?_
        exact JA.weak rfl (by kernel_rfl) (by exact Keeps.k) (by exact Sub.k) (hmid0 (bq, ⟨rn, hrn⟩) (by trivial))
      refine JA.mid (X := Nat × {r : Row // Row.ok 64 ((pairsR (m - bel n) (n - bel n) false x q).1.length + 1) (fp (pairsR (m - bel n) (n - bel n) false x q).1 ++ fp [(y, (pairsR (m - bel n) (n - bel n) false x q).2)]) (some r)}) (fun _ => True) (fun ⟨bq, ⟨rn, hrn⟩⟩ => [(11, .pointer (some ⟨b11, 0, none⟩)), (14, .pointer (some ⟨b14, 0, none⟩)), (18, .pointer (some ⟨b18, 0, none⟩)), (73, Row.v (pairsR (m - bel n) (n - bel n) false x q).1.length r1), (74, .agg (arr8 y.1)), (75, .agg (arr8 (pairsR (m - bel n) (n - bel n) false x q).2.1)), (80, .agg (arr8 (pairsR (m - bel n) (n - bel n) false x q).2.1)), (76, .agg (fp [(y, (pairsR (m - bel n) (n - bel n) false x q).2)]).toArray), (77, .slice (some ⟨bq, 0, none⟩) 1 1), (78, Row.v ((pairsR (m - bel n) (n - bel n) false x q).1.length + 1) (some rn))]) (fun ⟨bq, ⟨rn, hrn⟩⟩ => [(bq, Obj.cells (fp [(y, (pairsR (m - bel n) (n - bel n) false x q).2)]).toArray 60 (0, 0)), (b18, Obj.cells (arr8 (pairsR (m - bel n) (n - bel n) false x q).2.1) 22 (0, 0)), (b14, Obj.cells (arr8 y.1) 22 (0, 0)), (b11, Obj.cells (arr8 (List.replicate 32 0)) 22 (0, 0))] ++ Row.b 60 (some rn)) 4 #[true, true, true, true, true, true, false, true, false, false, false] ?_ (fun hmid2 => ?_)
      · -- state [0, 1, 2, 3, 4, 5, 7]
        rintro ⟨bq, ⟨rn, hrn⟩⟩ hq
        refine JA.one 6 ?_
        refine JO.val rfl rfl rfl (.none rfl) (Ev.lB Tryd.underlying22 Tryd.sizeOf22) ?_
        exact JA.weak rfl (by kernel_rfl) (by exact Keeps.k) (by exact Sub.k) (hmid0 (bq, ⟨rn, hrn⟩) (by trivial))
      refine JA.mid (X := Nat × {r : Row // Row.ok 64 ((pairsR (m - bel n) (n - bel n) false x q).1.length + 1) (fp (pairsR (m - bel n) (n - bel n) false x q).1 ++ fp [(y, (pairsR (m - bel n) (n - bel n) false x q).2)]) (some r)}) (fun _ => True) (fun ⟨bq, ⟨rn, hrn⟩⟩ => [(11, .pointer (some ⟨b11, 0, none⟩)), (14, .pointer (some ⟨b14, 0, none⟩)), (18, .pointer (some ⟨b18, 0, none⟩)), (73, Row.v (pairsR (m - bel n) (n - bel n) false x q).1.length r1), (74, .agg (arr8 y.1)), (75, .agg (arr8 (pairsR (m - bel n) (n - bel n) false x q).2.1)), (76, .agg (fp [(y, (pairsR (m - bel n) (n - bel n) false x q).2)]).toArray), (77, .slice (some ⟨bq, 0, none⟩) 1 1), (78, Row.v ((pairsR (m - bel n) (n - bel n) false x q).1.length + 1) (some rn))]) (fun ⟨bq, ⟨rn, hrn⟩⟩ => [(bq, Obj.cells (fp [(y, (pairsR (m - bel n) (n - bel n) false x q).2)]).toArray 60 (0, 0)), (b18, Obj.cells (arr8 (pairsR (m - bel n) (n - bel n) false x q).2.1) 22 (0, 0)), (b14, Obj.cells (arr8 y.1) 22 (0, 0)), (b11, Obj.cells (arr8 (List.replicate 32 0)) 22 (0, 0))] ++ Row.b 60 (some rn)) 5 #[true, true, true, true, true, true, false, false, false, false, false] ?_ (fun hmid3 => ?_)
      · -- state [0, 1, 2, 3, 4, 5]
        rintro ⟨bq, ⟨rn, hrn⟩⟩ hq
        refine JA.branch [6, 7] (by kernel_rfl) rfl ?_
        refine JAll.cons rfl ?_ ?_
        · -- 6
          refine JO.val rfl rfl rfl (.none rfl) (Ev.lB Tryd.underlying22 Tryd.sizeOf22) ?_
          exact JA.weak rfl (by kernel_rfl) (by exact Keeps.k) (by exact Sub.k) (hmid1 (bq, ⟨rn, hrn⟩) (by trivial))
        refine JAll.cons rfl ?_ JAll.nil
        refine JO.val rfl rfl rfl (.none rfl) (Ev.lB Tryd.underlying22 Tryd.sizeOf22) ?_
        exact JA.weak rfl (by kernel_rfl) (by exact Keeps.k) (by exact Sub.k) (hmid2 (bq, ⟨rn, hrn⟩) (by trivial))
      refine JA.mid (X := Nat) (fun _ => True) (fun bq => [(11, .pointer (some ⟨b11, 0, none⟩)), (14, .pointer (some ⟨b14, 0, none⟩)), (18, .pointer (some ⟨b18, 0, none⟩)), (73, Row.v (pairsR (m - bel n) (n - bel n) false x q).1.length r1), (74, .agg (arr8 y.1)), (75, .agg (arr8 (pairsR (m - bel n) (n - bel n) false x q).2.1)), (79, .agg (arr8 y.1)), (80, .agg (arr8 (pairsR (m - bel n) (n - bel n) false x q).2.1)), (76, .agg (fp [(y, (pairsR (m - bel n) (n - bel n) false x q).2)]).toArray), (77, .slice (some ⟨bq, 0, none⟩) 1 1)]) (fun bq => [(bq, Obj.cells (fp [(y, (pairsR (m - bel n) (n - bel n) false x q).2)]).toArray 60 (0, 0)), (b18, Obj.cells (arr8 (pairsR (m - bel n) (n - bel n) false x q).2.1) 22 (0, 0)), (b14, Obj.cells (arr8 y.1) 22 (0, 0)), (b11, Obj.cells (arr8 (List.replicate 32 0)) 22 (0, 0))] ++ Row.b 60 r1) 4 #[true, true, true, true, true, false, true, true, false, false, false] ?_ (fun hmid4 => ?_)
      · -- state [0, 1, 2, 3, 4, 6, 7]
        rintro bq hq
        refine JA.one 5 ?_
        refine JO.gen rfl rfl rfl (.none rfl) (Eg.append1 (r := r1) (n := (pairsR (m - bel n) (n - bel n) false x q).1.length) (xs := fp (pairsR (m - bel n) (n - bel n) false x q).1) (news := fp [(y, (pairsR (m - bel n) (n - bel n) false x q).2)]) (z := (.agg (arr8 (List.replicate 64 0)))) (s := 64) (bytes := 64) rfl rfl rfl Cut.k Tryd.underlying56 (by kernel_rfl) rfl (by decide) (by decide) hr1 (Rds.all memK) (fp_length _) (by decide) (fp_one _) (by have := hpl; omega)) ?_
        rintro _ _ ⟨rn, rfl, rfl, hrn⟩
        exact JA.weak rfl (by kernel_rfl) (by exact Keeps.k) (by exact Sub.k) (hmid0 (bq, ⟨rn, hrn⟩) (by trivial))
      refine JA.mid (X := Nat) (fun _ => True) (fun bq => [(11, .pointer (some ⟨b11, 0, none⟩)), (14, .pointer (some ⟨b14, 0, none⟩)), (18, .pointer (some ⟨b18, 0, none⟩)), (73, Row.v (pairsR (m - bel n) (n - bel n) false x q).1.length r1), (74, .agg (arr8 y.1)), (75, .agg (arr8 (pairsR (m - bel n) (n - bel n) false x q).2.1)), (79, .agg (arr8 y.1)), (76, .agg (fp [(y, (pairsR (m - bel n) (n - bel n) false x q).2)]).toArray), (77, .slice (some ⟨bq, 0, none⟩) 1 1)]) (fun bq => [(bq, Obj.cells (fp [(y, (pairsR (m - bel n) (n - bel n) false x q).2)]).toArray 60 (0, 0)), (b18, Obj.cells (arr8 (pairsR (m - bel n) (n - bel n) false x q).2.1) 22 (0, 0)), (b14, Obj.cells (arr8 y.1) 22 (0, 0)), (b11, Obj.cells (arr8 (List.replicate 32 0)) 22 (0, 0))] ++ Row.b 60 r1) 5 #[true, true, true, true, true, false, true, false, false, false, false] ?_ (fun hmid5 => ?_)
      · -- state [0, 1, 2, 3, 4, 6]
        rintro bq hq
        refine JA.branch [5, 7] (by kernel_rfl) rfl ?_
        refine JAll.cons rfl ?_ ?_
        · -- 5
          refine JO.gen rfl rfl rfl (.none rfl) (Eg.append1 (r := r1) (n := (pairsR (m - bel n) (n - bel n) false x q).1.length) (xs := fp (pairsR (m - bel n) (n - bel n) false x q).1) (news := fp [(y, (pairsR (m - bel n) (n - bel n) false x q).2)]) (z := (.agg (arr8 (List.replicate 64 0)))) (s := 64) (bytes := 64) rfl rfl rfl Cut.k Tryd.underlying56 (by kernel_rfl) rfl (by decide) (by decide) hr1 (Rds.all memK) (fp_length _) (by decide) (fp_one _) (by have := hpl; omega)) ?_
          rintro _ _ ⟨rn, rfl, rfl, hrn⟩
          exact JA.weak rfl (by kernel_rfl) (by exact Keeps.k) (by exact Sub.k) (hmid1 (bq, ⟨rn, hrn⟩) (by trivial))
        refine JAll.cons rfl ?_ JAll.nil
        refine JO.val rfl rfl rfl (.none rfl) (Ev.lB Tryd.underlying22 Tryd.sizeOf22) ?_
        exact JA.weak rfl (by kernel_rfl) (by exact Keeps.k) (by exact Sub.k) (hmid4 bq (by trivial))
      refine JA.mid (X := Nat) (fun _ => True) (fun bq => [(11, .pointer (some ⟨b11, 0, none⟩)), (14, .pointer (some ⟨b14, 0, none⟩)), (18, .pointer (some ⟨b18, 0, none⟩)), (73, Row.v (pairsR (m - bel n) (n - bel n) false x q).1.length r1), (74, .agg (arr8 y.1)), (75, .agg (arr8 (pairsR (m - bel n) (n - bel n) false x q).2.1)), (80, .agg (arr8 (pairsR (m - bel n) (n - bel n) false x q).2.1)), (76, .agg (fp [(y, (pairsR (m - bel n) (n - bel n) false x q).2)]).toArray), (77, .slice (some ⟨bq, 0, none⟩) 1 1)]) (fun bq => [(bq, Obj.cells (fp [(y, (pairsR (m - bel n) (n - bel n) false x q).2)]).toArray 60 (0, 0)), (b18, Obj.cells (arr8 (pairsR (m - bel n) (n - bel n) false x q).2.1) 22 (0, 0)), (b14, Obj.cells (arr8 y.1) 22 (0, 0)), (b11, Obj.cells (arr8 (List.replicate 32 0)) 22 (0, 0))] ++ Row.b 60 r1) 5 #[true, true, true, true, true, false, false, true, false, false, false] ?_ (fun hmid6 => ?_)
      · -- state [0, 1, 2, 3, 4, 7]
        rintro bq hq
        refine JA.branch [5, 6] (by kernel_rfl) rfl ?_
        refine JAll.cons rfl ?_ ?_
        · -- 5
          refine JO.gen rfl rfl rfl (.none rfl) (Eg.append1 (r := r1) (n := (pairsR (m - bel n) (n - bel n) false x q).1.length) (xs := fp (pairsR (m - bel n) (n - bel n) false x q).1) (news := fp [(y, (pairsR (m - bel n) (n - bel n) false x q).2)]) (z := (.agg (arr8 (List.replicate 64 0)))) (s := 64) (bytes := 64) rfl rfl rfl Cut.k Tryd.underlying56 (by kernel_rfl) rfl (by decide) (by decide) hr1 (Rds.all memK) (fp_length _) (by decide) (fp_one _) (by have := hpl; omega)) ?_
          rintro _ _ ⟨rn, rfl, rfl, hrn⟩
          exact JA.weak rfl (by kernel_rfl) (by exact Keeps.k) (by exact Sub.k) (hmid2 (bq, ⟨rn, hrn⟩) (by trivial))
        refine JAll.cons rfl ?_ JAll.nil
        refine JO.val rfl rfl rfl (.none rfl) (Ev.lB Tryd.underlying22 Tryd.sizeOf22) ?_
        exact JA.weak rfl (by kernel_rfl) (by exact Keeps.k) (by exact Sub.k) (hmid4 bq (by trivial))
      refine JA.mid (X := Nat) (fun _ => True) (fun bq => [(11, .pointer (some ⟨b11, 0, none⟩)), (14, .pointer (some ⟨b14, 0, none⟩)), (18, .pointer (some ⟨b18, 0, none⟩)), (73, Row.v (pairsR (m - bel n) (n - bel n) false x q).1.length r1), (74, .agg (arr8 y.1)), (75, .agg (arr8 (pairsR (m - bel n) (n - bel n) false x q).2.1)), (76, .agg (fp [(y, (pairsR (m - bel n) (n - bel n) false x q).2)]).toArray), (77, .slice (some ⟨bq, 0, none⟩) 1 1)]) (fun bq => [(bq, Obj.cells (fp [(y, (pairsR (m - bel n) (n - bel n) false x q).2)]).toArray 60 (0, 0)), (b18, Obj.cells (arr8 (pairsR (m - bel n) (n - bel n) false x q).2.1) 22 (0, 0)), (b14, Obj.cells (arr8 y.1) 22 (0, 0)), (b11, Obj.cells (arr8 (List.replicate 32 0)) 22 (0, 0))] ++ Row.b 60 r1) 6 #[true, true, true, true, true, false, false, false, false, false, false] ?_ (fun hmid7 => ?_)
      · -- state [0, 1, 2, 3, 4]
        rintro bq hq
        refine JA.branch [5, 6, 7] (by kernel_rfl) rfl ?_
        refine JAll.cons rfl ?_ ?_
        · -- 5
          refine JO.gen rfl rfl rfl (.none rfl) (Eg.append1 (r := r1) (n := (pairsR (m - bel n) (n - bel n) false x q).1.length) (xs := fp (pairsR (m - bel n) (n - bel n) false x q).1) (news := fp [(y, (pairsR (m - bel n) (n - bel n) false x q).2)]) (z := (.agg (arr8 (List.replicate 64 0)))) (s := 64) (bytes := 64) rfl rfl rfl Cut.k Tryd.underlying56 (by kernel_rfl) rfl (by decide) (by decide) hr1 (Rds.all memK) (fp_length _) (by decide) (fp_one _) (by have := hpl; omega)) ?_
          rintro _ _ ⟨rn, rfl, rfl, hrn⟩
          exact JA.weak rfl (by kernel_rfl) (by exact Keeps.k) (by exact Sub.k) (hmid3 (bq, ⟨rn, hrn⟩) (by trivial))
        refine JAll.cons rfl ?_ ?_
        · -- 6
          refine JO.val rfl rfl rfl (.none rfl) (Ev.lB Tryd.underlying22 Tryd.sizeOf22) ?_
          exact JA.weak rfl (by kernel_rfl) (by exact Keeps.k) (by exact Sub.k) (hmid5 bq (by trivial))
        refine JAll.cons rfl ?_ JAll.nil
        refine JO.val rfl rfl rfl (.none rfl) (Ev.lB Tryd.underlying22 Tryd.sizeOf22) ?_
        exact JA.weak rfl (by kernel_rfl) (by exact Keeps.k) (by exact Sub.k) (hmid6 bq (by trivial))
      refine JA.mid (X := Unit) (fun _ => True) (fun _ => [(11, .pointer (some ⟨b11, 0, none⟩)), (14, .pointer (some ⟨b14, 0, none⟩)), (18, .pointer (some ⟨b18, 0, none⟩)), (73, Row.v (pairsR (m - bel n) (n - bel n) false x q).1.length r1), (74, .agg (arr8 y.1)), (75, .agg (arr8 (pairsR (m - bel n) (n - bel n) false x q).2.1)), (79, .agg (arr8 y.1)), (80, .agg (arr8 (pairsR (m - bel n) (n - bel n) false x q).2.1)), (76, .agg (fp [(y, (pairsR (m - bel n) (n - bel n) false x q).2)]).toArray)]) (fun _ => [(b18, Obj.cells (arr8 (pairsR (m - bel n) (n - bel n) false x q).2.1) 22 (0, 0)), (b14, Obj.cells (arr8 y.1) 22 (0, 0)), (b11, Obj.cells (arr8 (List.replicate 32 0)) 22 (0, 0))] ++ Row.b 60 r1) 5 #[true, true, true, true, false, false, true, true, false, false, false] ?_ (fun hmid8 => ?_)
      · -- state [0, 1, 2, 3, 6, 7]
        rintro _ hq
        refine JA.one 4 ?_
        refine JO.new rfl rfl rfl (.none rfl) (En.bs1P rfl Tryd.underlying56 Tryd.sizeOf60 Tryd.zeroValue60) (fun b77 hb77 => ?_)
        obtain ⟨bq, rfl⟩ : ∃ b, b = b77 := ⟨_, rfl⟩
        exact JA.weak rfl (by kernel_rfl) (by exact Keeps.k) (by exact Sub.k) (hmid4 bq (by trivial))
      refine JA.mid (X := Unit) (fun _ => True) (fun _ => [(11, .pointer (some ⟨b11, 0, none⟩)), (14, .pointer (some ⟨b14, 0, none⟩)), (18, .pointer (some ⟨b18, 0, none⟩)), (73, Row.v (pairsR (m - bel n) (n - bel n) false x q).1.length r1), (74, .agg (arr8 y.1)), (75, .agg (arr8 (pairsR (m - bel n) (n - bel n) false x q).2.1)), (79, .agg (arr8 y.1)), (76, .agg (fp [(y, (pairsR (m - bel n) (n - bel n) false x q).2)]).toArray)]) (fun _ => [(b18, Obj.cells (arr8 (pairsR (m - bel n) (n - bel n) false x q).2.1) 22 (0, 0)), (b14, Obj.cells (arr8 y.1) 22 (0, 0)), (b11, Obj.cells (arr8 (List.replicate 32 0)) 22 (0, 0))] ++ Row.b 60 r1) 6 #[true, true, true, true, false, false, true, false, false, false, false] ?_ (fun hmid9 => ?_)
      · -- state [0, 1, 2, 3, 6]
        rintro _ hq
        refine JA.branch [4, 7] (by kernel_rfl) rfl ?_
        refine JAll.cons rfl ?_ ?_
        · -- 4
          refine JO.new rfl rfl rfl (.none rfl) (En.bs1P rfl Tryd.underlying56 Tryd.sizeOf60 Tryd.zeroValue60) (fun b77 hb77 => ?_)
          obtain ⟨bq, rfl⟩ : ∃ b, b = b77 := ⟨_, rfl⟩
          exact JA.weak rfl (by kernel_rfl) (by exact Keeps.k) (by exact Sub.k) (hmid5 bq (by trivial))
        refine JAll.cons rfl ?_ JAll.nil
        refine JO.val rfl rfl rfl (.none rfl) (Ev.lB Tryd.underlying22 Tryd.sizeOf22) ?_
        exact JA.weak rfl (by kernel_rfl) (by exact Keeps.k) (by exact Sub.k) (hmid8 () (by trivial))
      refine JA.mid (X := Unit) (fun _ => True) (fun _ => [(11, .pointer (some ⟨b11, 0, none⟩)), (14, .pointer (some ⟨b14, 0, none⟩)), (18, .pointer (some ⟨b18, 0, none⟩)), (73, Row.v (pairsR (m - bel n) (n - bel n) false x q).1.length r1), (74, .agg (arr8 y.1)), (75, .agg (arr8 (pairsR (m - bel n) (n - bel n) false x q).2.1)), (80, .agg (arr8 (pairsR (m - bel n) (n - bel n) false x q).2.1)), (76, .agg (fp [(y, (pairsR (m - bel n) (n - bel n) false x q).2)]).toArray)]) (fun _ => [(b18, Obj.cells (arr8 (pairsR (m - bel n) (n - bel n) false x q).2.1) 22 (0, 0)), (b14, Obj.cells (arr8 y.1) 22 (0, 0)), (b11, Obj.cells (arr8 (List.replicate 32 0)) 22 (0, 0))] ++ Row.b 60 r1) 6 #[true, true, true, true, false, false, false, true, false, false, false] ?_ (fun hmid10 => ?_)
      · -- state [0, 1, 2, 3, 7]
        rintro _ hq
        refine JA.branch [4, 6] (by kernel_rfl) rfl ?_
        refine JAll.cons rfl ?_ ?_
        · -- 4
          refine JO.new rfl rfl rfl (.none rfl) (En.bs1P rfl Tryd.underlying56 Tryd.sizeOf60 Tryd.zeroValue60) (fun b77 hb77 => ?_)
          obtain ⟨bq, rfl⟩ : ∃ b, b = b77 := ⟨_, rfl⟩
          exact JA.weak rfl (by kernel_rfl) (by exact Keeps.k) (by exact Sub.k) (hmid6 bq (by trivial))
        refine JAll.cons rfl ?_ JAll.nil
        refine JO.val rfl rfl rfl (.none rfl) (Ev.lB Tryd.underlying22 Tryd.sizeOf22) ?_
        exact JA.weak rfl (by kernel_rfl) (by exact Keeps.k) (by exact Sub.k) (hmid8 () (by trivial))
      refine JA.mid (X := Unit) (fun _ => True) (fun _ => [(11, .pointer (some ⟨b11, 0, none⟩)), (14, .pointer (some ⟨b14, 0, none⟩)), (18, .pointer (some ⟨b18, 0, none⟩)), (73, Row.v (pairsR (m - bel n) (n - bel n) false x q).1.length r1), (74, .agg (arr8 y.1)), (75, .agg (arr8 (pairsR (m - bel n) (n - bel n) false x q).2.1)), (76, .agg (fp [(y, (pairsR (m - bel n) (n - bel n) false x q).2)]).toArray)]) (fun _ => [(b18, Obj.cells (arr8 (pairsR (m - bel n) (n - bel n) false x q).2.1) 22 (0, 0)), (b14, Obj.cells (arr8 y.1) 22 (0, 0)), (b11, Obj.cells (arr8 (List.replicate 32 0)) 22 (0, 0))] ++ Row.b 60 r1) 7 #[true, true, true, true, false, false, false, false, false, false, false] ?_ (fun hmid11 => ?_)
      · -- state [0, 1, 2, 3]
        rintro _ hq
        refine JA.branch [4, 6, 7] (by kernel_rfl) rfl ?_
        refine JAll.cons rfl ?_ ?_
        · -- 4
          refine JO.new rfl rfl rfl (.none rfl) (En.bs1P rfl Tryd.underlying56 Tryd.sizeOf60 Tryd.zeroValue60) (fun b77 hb77 => ?_)
          obtain ⟨bq, rfl⟩ : ∃ b, b = b77 := ⟨_, rfl⟩
          exact JA.weak rfl (by kernel_rfl) (by exact Keeps.k) (by exact Sub.k) (hmid7 bq (by trivial))
        refine JAll.cons rfl ?_ ?_
        · -- 6
          refine JO.val rfl rfl rfl (.none rfl) (Ev.lB Tryd.underlying22 Tryd.sizeOf22) ?_
          exact JA.weak rfl (by kernel_rfl) (by exact Keeps.k) (by exact Sub.k) (hmid9 () (by trivial))
        refine JAll.cons rfl ?_ JAll.nil
        refine JO.val rfl rfl rfl (.none rfl) (Ev.lB Tryd.underlying22 Tryd.sizeOf22) ?_
        exact JA.weak rfl (by kernel_rfl) (by exact Keeps.k) (by exact Sub.k) (hmid10 () (by trivial))
      refine JA.mid (X := Unit) (fun _ => True) (fun _ => [(11, .pointer (some ⟨b11, 0, none⟩)), (14, .pointer (some ⟨b14, 0, none⟩)), (18, .pointer (some ⟨b18, 0, none⟩)), (73, Row.v (pairsR (m - bel n) (n - bel n) false x q).1.length r1), (74, .agg (arr8 y.1)), (79, .agg (arr8 y.1)), (80, .agg (arr8 (pairsR (m - bel n) (n - bel n) false x q).2.1))]) (fun _ => [(b18, Obj.cells (arr8 (pairsR (m - bel n) (n - bel n) false x q).2.1) 22 (0, 0)), (b14, Obj.cells (arr8 y.1) 22 (0, 0)), (b11, Obj.cells (arr8 (List.replicate 32 0)) 22 (0, 0))] ++ Row.b 60 r1) 7 #[true, true, false, false, false, false, true, true, false, false, false] ?_ (fun hmid12 => ?_)
      · -- state [0, 1, 6, 7]
        rintro _ hq
        refine JA.one 2 ?_
        refine JO.val rfl rfl rfl (.none rfl) (Ev.lB Tryd.underlying22 Tryd.sizeOf22) ?_
        refine JA.one 3 ?_
        refine JO.val rfl rfl rfl (.none rfl) (Ev.buP rfl rfl Tryd.underlying60 Tryd.sizeOf22 Tryd.zeroValue60 rfl) ?_
        exact JA.weak rfl (by kernel_rfl) (by exact Keeps.k) (by exact Sub.k) (hmid8 () (by trivial))
      refine JA.mid (X := Unit) (fun _ => True) (fun _ => [(11, .pointer (some ⟨b11, 0, none⟩)), (14, .pointer (some ⟨b14, 0, none⟩)), (18, .pointer (some ⟨b18, 0, none⟩)), (73, Row.v (pairsR (m - bel n) (n - bel n) false x q).1.length r1), (74, .agg (arr8 y.1)), (79, .agg (arr8 y.1))]) (fun _ => [(b18, Obj.cells (arr8 (pairsR (m - bel n) (n - bel n) false x q).2.1) 22 (0, 0)), (b14, Obj.cells (arr8 y.1) 22 (0, 0)), (b11, Obj.cells (arr8 (List.replicate 32 0)) 22 (0, 0))] ++ Row.b 60 r1) 8 #[true, true, false, false, false, false, true, false, false, false, false] ?_ (fun hmid13 => ?_)
      · -- state [0, 1, 6]
        rintro _ hq
        refine JA.branch [2, 7] (by kernel_rfl) rfl ?_
        refine JAll.cons rfl ?_ ?_
        · -- 2
          refine JO.val rfl rfl rfl (.none rfl) (Ev.lB Tryd.underlying22 Tryd.sizeOf22) ?_
          refine JA.branch [3, 7] (by kernel_rfl) rfl ?_
          refine JAll.cons rfl ?_ ?_
          · -- 3
            refine JO.val rfl rfl rfl (.none rfl) (Ev.buP rfl rfl Tryd.underlying60 Tryd.sizeOf22 Tryd.zeroValue60 rfl) ?_
            exact JA.weak rfl (by kernel_rfl) (by exact Keeps.k) (by exact Sub.k) (hmid9 () (by trivial))
          refine JAll.cons rfl ?_ JAll.nil
          refine JO.val rfl rfl rfl (.none rfl) (Ev.lB Tryd.underlying22 Tryd.sizeOf22) ?_
          refine JA.one 3 ?_
          refine JO.val rfl rfl rfl (.none rfl) (Ev.buP rfl rfl Tryd.underlying60 Tryd.sizeOf22 Tryd.zeroValue60 rfl) ?_
          exact JA.weak rfl (by kernel_rfl) (by exact Keeps.k) (by exact Sub.k) (hmid8 () (by trivial))
        refine JAll.cons rfl ?_ JAll.nil
        refine JO.val rfl rfl rfl (.none rfl) (Ev.lB Tryd.underlying22 Tryd.sizeOf22) ?_
        exact JA.weak rfl (by kernel_rfl) (by exact Keeps.k) (by exact Sub.k) (hmid12 () (by trivial))
      refine JA.mid (X := Unit) (fun _ => True) (fun _ => [(11, .pointer (some ⟨b11, 0, none⟩)), (14, .pointer (some ⟨b14, 0, none⟩)), (18, .pointer (some ⟨b18, 0, none⟩)), (73, Row.v (pairsR (m - bel n) (n - bel n) false x q).1.length r1), (74, .agg (arr8 y.1)), (80, .agg (arr8 (pairsR (m - bel n) (n - bel n) false x q).2.1))]) (fun _ => [(b18, Obj.cells (arr8 (pairsR (m - bel n) (n - bel n) false x q).2.1) 22 (0, 0)), (b14, Obj.cells (arr8 y.1) 22 (0, 0)), (b11, Obj.cells (arr8 (List.replicate 32 0)) 22 (0, 0))] ++ Row.b 60 r1) 8 #[true, true, false, false, false, false, false, true, false, false, false] ?_ (fun hmid14 => ?_)
      · -- state [0, 1, 7]
        rintro _ hq
        refine JA.branch [2, 6] (by kernel_rfl) rfl ?_
        refine JAll.cons rfl ?_ ?_
        · -- 2
          refine JO.val rfl rfl rfl (.none rfl) (Ev.lB Tryd.underlying22 Tryd.sizeOf22) ?_
          refine JA.branch [3, 6] (by kernel_rfl) rfl ?_
          refine JAll.cons rfl ?_ ?_
          · -- 3
            refine JO.val rfl rfl rfl (.none rfl) (Ev.buP rfl rfl Tryd.underlying60 Tryd.sizeOf22 Tryd.zeroValue60 rfl) ?_
            exact JA.weak rfl (by kernel_rfl) (by exact Keeps.k) (by exact Sub.k) (hmid10 () (by trivial))
          refine JAll.cons rfl ?_ JAll.nil
          refine JO.val rfl rfl rfl (.none rfl) (Ev.lB Tryd.underlying22 Tryd.sizeOf22) ?_
          refine JA.one 3 ?_
          refine JO.val rfl rfl rfl (.none rfl) (Ev.buP rfl rfl Tryd.underlying60 Tryd.sizeOf22 Tryd.zeroValue60 rfl) ?_
          exact JA.weak rfl (by kernel_rfl) (by exact Keeps.k) (by exact Sub.k) (hmid8 () (by trivial))
        refine JAll.cons rfl ?_ JAll.nil
        refine JO.val rfl rfl rfl (.none rfl) (Ev.lB Tryd.underlying22 Tryd.sizeOf22) ?_
        exact JA.weak rfl (by kernel_rfl) (by exact Keeps.k) (by exact Sub.k) (hmid12 () (by trivial))
      refine JA.mid (X := Unit) (fun _ => True) (fun _ => [(11, .pointer (some ⟨b11, 0, none⟩)), (14, .pointer (some ⟨b14, 0, none⟩)), (18, .pointer (some ⟨b18, 0, none⟩)), (73, Row.v (pairsR (m - bel n) (n - bel n) false x q).1.length r1), (74, .agg (arr8 y.1))]) (fun _ => [(b18, Obj.cells (arr8 (pairsR (m - bel n) (n - bel n) false x q).2.1) 22 (0, 0)), (b14, Obj.cells (arr8 y.1) 22 (0, 0)), (b11, Obj.cells (arr8 (List.replicate 32 0)) 22 (0, 0))] ++ Row.b 60 r1) 9 #[true, true, false, false, false, false, false, false, false, false, false] ?_ (fun hmid15 => ?_)
      · -- state [0, 1]
        rintro _ hq
        refine JA.branch [2, 6, 7] (by kernel_rfl) rfl ?_
        refine JAll.cons rfl ?_ ?_
        · -- 2
          refine JO.val rfl rfl rfl (.none rfl) (Ev.lB Tryd.underlying22 Tryd.sizeOf22) ?_
          refine JA.branch [3, 6, 7] (by kernel_rfl) rfl ?_
          refine JAll.cons rfl ?_ ?_
          · -- 3
            refine JO.val rfl rfl rfl (.none rfl) (Ev.buP rfl rfl Tryd.underlying60 Tryd.sizeOf22 Tryd.zeroValue60 rfl) ?_
            exact JA.weak rfl (by kernel_rfl) (by exact Keeps.k) (by exact Sub.k) (hmid11 () (by trivial))
          refine JAll.cons rfl ?_ ?_
          · -- 6
            refine JO.val rfl rfl rfl (.none rfl) (Ev.lB Tryd.underlying22 Tryd.sizeOf22) ?_
            refine JA.branch [3, 7] (by kernel_rfl) rfl ?_
            refine JAll.cons rfl ?_ ?_
            · -- 3
              refine JO.val rfl rfl rfl (.none rfl) (Ev.buP rfl rfl Tryd.underlying60 Tryd.sizeOf22 Tryd.zeroValue60 rfl) ?_
              exact JA.weak rfl (by kernel_rfl) (by exact Keeps.k) (by exact Sub.k) (hmid9 () (by trivial))
            refine JAll.cons rfl ?_ JAll.nil
            refine JO.val rfl rfl rfl (.none rfl) (Ev.lB Tryd.underlying22 Tryd.sizeOf22) ?_
            refine JA.one 3 ?_
            refine JO.val rfl rfl rfl (.none rfl) (Ev.buP rfl rfl Tryd.underlying60 Tryd.sizeOf22 Tryd.zeroValue60 rfl) ?_
            exact JA.weak rfl (by kernel_rfl) (by exact Keeps.k) (by exact Sub.k) (hmid8 () (by trivial))
          refine JAll.cons rfl ?_ JAll.nil
          refine JO.val rfl rfl rfl (.none rfl) (Ev.lB Tryd.underlying22 Tryd.sizeOf22) ?_
          refine JA.branch [3, 6] (by kernel_rfl) rfl ?_
          refine JAll.cons rfl ?_ ?_
          · -- 3
            refine JO.val rfl rfl rfl (.none rfl) (Ev.buP rfl rfl Tryd.underlying60 Tryd.sizeOf22 Tryd.zeroValue60 rfl) ?_
            exact JA.weak rfl (by kernel_rfl) (by exact Keeps.k) (by exact Sub.k) (hmid10 () (by trivial))
          refine JAll.cons rfl ?_ JAll.nil
          refine JO.val rfl rfl rfl (.none rfl) (Ev.lB Tryd.underlying22 Tryd.sizeOf22) ?_
          refine JA.one 3 ?_
          refine JO.val rfl rfl rfl (.none rfl) (Ev.buP rfl rfl Tryd.underlying60 Tryd.sizeOf22 Tryd.zeroValue60 rfl) ?_
          exact JA.weak rfl (by kernel_rfl) (by exact Keeps.k) (by exact Sub.k) (hmid8 () (by trivial))
        refine JAll.cons rfl ?_ ?_
        · -- 6
          refine JO.val rfl rfl rfl (.none rfl) (Ev.lB Tryd.underlying22 Tryd.sizeOf22) ?_
          exact JA.weak rfl (by kernel_rfl) (by exact Keeps.k) (by exact Sub.k) (hmid13 () (by trivial))
        refine JAll.cons rfl ?_ JAll.nil
        refine JO.val rfl rfl rfl (.none rfl) (Ev.lB Tryd.underlying22 Tryd.sizeOf22) ?_
        exact JA.weak rfl (by kernel_rfl) (by exact Keeps.k) (by exact Sub.k) (hmid14 () (by trivial))
      refine JA.mid (X := Unit) (fun _ => True) (fun _ => [(11, .pointer (some ⟨b11, 0, none⟩)), (14, .pointer (some ⟨b14, 0, none⟩)), (18, .pointer (some ⟨b18, 0, none⟩)), (73, Row.v (pairsR (m - bel n) (n - bel n) false x q).1.length r1), (75, .agg (arr8 (pairsR (m - bel n) (n - bel n) false x q).2.1)), (79, .agg (arr8 y.1)), (80, .agg (arr8 (pairsR (m - bel n) (n - bel n) false x q).2.1))]) (fun _ => [(b18, Obj.cells (arr8 (pairsR (m - bel n) (n - bel n) false x q).2.1) 22 (0, 0)), (b14, Obj.cells (arr8 y.1) 22 (0, 0)), (b11, Obj.cells (arr8 (List.replicate 32 0)) 22 (0, 0))] ++ Row.b 60 r1) 7 #[true, false, true, false, false, false, true, true, false, false, false] ?_ (fun hmid16 => ?_)
      · -- state [0, 2, 6, 7]
        rintro _ hq
        refine JA.one 1 ?_
        refine JO.val rfl rfl rfl (.none rfl) (Ev.lB Tryd.underlying22 Tryd.sizeOf22) ?_
        refine JA.one 3 ?_
        refine JO.val rfl rfl rfl (.none rfl) (Ev.buP rfl rfl Tryd.underlying60 Tryd.sizeOf22 Tryd.zeroValue60 rfl) ?_
        exact JA.weak rfl (by kernel_rfl) (by exact Keeps.k) (by exact Sub.k) (hmid8 () (by trivial))
      refine JA.mid (X := Unit) (fun _ => True) (fun _ => [(11, .pointer (some ⟨b11, 0, none⟩)), (14, .pointer (some ⟨b14, 0, none⟩)), (18, .pointer (some ⟨b18, 0, none⟩)), (73, Row.v (pairsR (m - bel n) (n - bel n) false x q).1.length r1), (75, .agg (arr8 (pairsR (m - bel n) (n - bel n) false x q).2.1)), (79, .agg (arr8 y.1))]) (fun _ => [(b18, Obj.cells (arr8 (pairsR (m - bel n) (n - bel n) false x q).2.1) 22 (0, 0)), (b14, Obj.cells (arr8 y.1) 22 (0, 0)), (b11, Obj.cells (arr8 (List.replicate 32 0)) 22 (0, 0))] ++ Row.b 60 r1) 8 #[true, false, true, false, false, false, true, false, false, false, false] ?_ (fun hmid17 => ?_)
      · -- state [0, 2, 6]
        rintro _ hq
        refine JA.branch [1, 7] (by kernel_rfl) rfl ?_
        refine JAll.cons rfl ?_ ?_
        · -- 1
          refine JO.val rfl rfl rfl (.none rfl) (Ev.lB Tryd.underlying22 Tryd.sizeOf22) ?_
          refine JA.branch [3, 7] (by kernel_rfl) rfl ?_
          refine JAll.cons rfl ?_ ?_
          · -- 3
            refine JO.val rfl rfl rfl (.none rfl) (Ev.buP rfl rfl Tryd.underlying60 Tryd.sizeOf22 Tryd.zeroValue60 rfl) ?_
            exact JA.weak rfl (by kernel_rfl) (by exact Keeps.k) (by exact Sub.k) (hmid9 () (by trivial))
          refine JAll.cons rfl ?_ JAll.nil
          refine JO.val rfl rfl rfl (.none rfl) (Ev.lB Tryd.underlying22 Tryd.sizeOf22) ?_
          refine JA.one 3 ?_
          refine JO.val rfl rfl rfl (.none rfl) (Ev.buP rfl rfl Tryd.underlying60 Tryd.sizeOf22 Tryd.zeroValue60 rfl) ?_
          exact JA.weak rfl (by kernel_rfl) (by exact Keeps.k) (by exact Sub.k) (hmid8 () (by trivial))
        refine JAll.cons rfl ?_ JAll.nil
        refine JO.val rfl rfl rfl (.none rfl) (Ev.lB Tryd.underlying22 Tryd.sizeOf22) ?_
        exact JA.weak rfl (by kernel_rfl) (by exact Keeps.k) (by exact Sub.k) (hmid16 () (by trivial))
      refine JA.mid (X := Unit) (fun _ => True) (fun _ => [(11, .pointer (some ⟨b11, 0, none⟩)), (14, .pointer (some ⟨b14, 0, none⟩)), (18, .pointer (some ⟨b18, 0, none⟩)), (73, Row.v (pairsR (m - bel n) (n - bel n) false x q).1.length r1), (75, .agg (arr8 (pairsR (m - bel n) (n - bel n) false x q).2.1)), (80, .agg (arr8 (pairsR (m - bel n) (n - bel n) false x q).2.1))]) (fun _ => [(b18, Obj.cells (arr8 (pairsR (m - bel n) (n - bel n) false x q).2.1) 22 (0, 0)), (b14, Obj.cells (arr8 y.1) 22 (0, 0)), (b11, Obj.cells (arr8 (List.replicate 32 0)) 22 (0, 0))] ++ Row.b 60 r1) 8 #[true, false, true, false, false, false, false, true, false, false, false] ?_ (fun hmid18 => ?_)
      · -- state [0, 2, 7]
        rintro _ hq
        refine JA.branch [1, 6] (by kernel_rfl) rfl ?_
        refine JAll.cons rfl ?_ ?_
        · -- 1
          refine JO.val rfl rfl rfl (.none rfl) (Ev.lB Tryd.underlying22 Tryd.sizeOf22) ?_
          refine JA.branch [3, 6] (by kernel_rfl) rfl ?_
          refine JAll.cons rfl ?_ ?_
          · -- 3
            refine JO.val rfl rfl rfl (.none rfl) (Ev.buP rfl rfl Tryd.underlying60 Tryd.sizeOf22 Tryd.zeroValue60 rfl) ?_
            exact JA.weak rfl (by kernel_rfl) (by exact Keeps.k) (by exact Sub.k) (hmid10 () (by trivial))
          refine JAll.cons rfl ?_ JAll.nil
          refine JO.val rfl rfl rfl (.none rfl) (Ev.lB Tryd.underlying22 Tryd.sizeOf22) ?_
          refine JA.one 3 ?_
          refine JO.val rfl rfl rfl (.none rfl) (Ev.buP rfl rfl Tryd.underlying60 Tryd.sizeOf22 Tryd.zeroValue60 rfl) ?_
          exact JA.weak rfl (by kernel_rfl) (by exact Keeps.k) (by exact Sub.k) (hmid8 () (by trivial))
        refine JAll.cons rfl ?_ JAll.nil
        refine JO.val rfl rfl rfl (.none rfl) (Ev.lB Tryd.underlying22 Tryd.sizeOf22) ?_
        exact JA.weak rfl (by kernel_rfl) (by exact Keeps.k) (by exact Sub.k) (hmid16 () (by trivial))
      refine JA.mid (X := Unit) (fun _ => True) (fun _ => [(11, .pointer (some ⟨b11, 0, none⟩)), (14, .pointer (some ⟨b14, 0, none⟩)), (18, .pointer (some ⟨b18, 0, none⟩)), (73, Row.v (pairsR (m - bel n) (n - bel n) false x q).1.length r1), (75, .agg (arr8 (pairsR (m - bel n) (n - bel n) false x q).2.1))]) (fun _ => [(b18, Obj.cells (arr8 (pairsR (m - bel n) (n - bel n) false x q).2.1) 22 (0, 0)), (b14, Obj.cells (arr8 y.1) 22 (0, 0)), (b11, Obj.cells (arr8 (List.replicate 32 0)) 22 (0, 0))] ++ Row.b 60 r1) 9 #[true, false, true, false, false, false, false, false, false, false, false] ?_ (fun hmid19 => ?_)
      · -- state [0, 2]
        rintro _ hq
        refine JA.branch [1, 6, 7] (by kernel_rfl) rfl ?_
        refine JAll.cons rfl ?_ ?_
        · -- 1
          refine JO.val rfl rfl rfl (.none rfl) (Ev.lB Tryd.underlying22 Tryd.sizeOf22) ?_
          refine JA.branch [3, 6, 7] (by kernel_rfl) rfl ?_
          refine JAll.cons rfl ?_ ?_
          · -- 3
            refine JO.val rfl rfl rfl (.none rfl) (Ev.buP rfl rfl Tryd.underlying60 Tryd.sizeOf22 Tryd.zeroValue60 rfl) ?_
            exact JA.weak rfl (by kernel_rfl) (by exact Keeps.k) (by exact Sub.k) (hmid11 () (by trivial))
          refine JAll.cons rfl ?_ ?_
          · -- 6
            refine JO.val rfl rfl rfl (.none rfl) (Ev.lB Tryd.underlying22 Tryd.sizeOf22) ?_
            refine JA.branch [3, 7] (by kernel_rfl) rfl ?_
            refine JAll.cons rfl ?_ ?_
            · -- 3
              refine JO.val rfl rfl rfl (.none rfl) (Ev.buP rfl rfl Tryd.underlying60 Tryd.sizeOf22 Tryd.zeroValue60 rfl) ?_
              exact JA.weak rfl (by kernel_rfl) (by exact Keeps.k) (by exact Sub.k) (hmid9 () (by trivial))
            refine JAll.cons rfl ?_ JAll.nil
            refine JO.val rfl rfl rfl (.none rfl) (Ev.lB Tryd.underlying22 Tryd.sizeOf22) ?_
            refine JA.one 3 ?_
            refine JO.val rfl rfl rfl (.none rfl) (Ev.buP rfl rfl Tryd.underlying60 Tryd.sizeOf22 Tryd.zeroValue60 rfl) ?_
            exact JA.weak rfl (by kernel_rfl) (by exact Keeps.k) (by exact Sub.k) (hmid8 () (by trivial))
          refine JAll.cons rfl ?_ JAll.nil
          refine JO.val rfl rfl rfl (.none rfl) (Ev.lB Tryd.underlying22 Tryd.sizeOf22) ?_
          refine JA.branch [3, 6] (by kernel_rfl) rfl ?_
          refine JAll.cons rfl ?_ ?_
          · -- 3
            refine JO.val rfl rfl rfl (.none rfl) (Ev.buP rfl rfl Tryd.underlying60 Tryd.sizeOf22 Tryd.zeroValue60 rfl) ?_
            exact JA.weak rfl (by kernel_rfl) (by exact Keeps.k) (by exact Sub.k) (hmid10 () (by trivial))
          refine JAll.cons rfl ?_ JAll.nil
          refine JO.val rfl rfl rfl (.none rfl) (Ev.lB Tryd.underlying22 Tryd.sizeOf22) ?_
          refine JA.one 3 ?_
          refine JO.val rfl rfl rfl (.none rfl) (Ev.buP rfl rfl Tryd.underlying60 Tryd.sizeOf22 Tryd.zeroValue60 rfl) ?_
          exact JA.weak rfl (by kernel_rfl) (by exact Keeps.k) (by exact Sub.k) (hmid8 () (by trivial))
        refine JAll.cons rfl ?_ ?_
        · -- 6
          refine JO.val rfl rfl rfl (.none rfl) (Ev.lB Tryd.underlying22 Tryd.sizeOf22) ?_
          exact JA.weak rfl (by kernel_rfl) (by exact Keeps.k) (by exact Sub.k) (hmid17 () (by trivial))
        refine JAll.cons rfl ?_ JAll.nil
        refine JO.val rfl rfl rfl (.none rfl) (Ev.lB Tryd.underlying22 Tryd.sizeOf22) ?_
        exact JA.weak rfl (by kernel_rfl) (by exact Keeps.k) (by exact Sub.k) (hmid18 () (by trivial))
      refine JA.mid (X := Unit) (fun _ => True) (fun _ => [(11, .pointer (some ⟨b11, 0, none⟩)), (14, .pointer (some ⟨b14, 0, none⟩)), (18, .pointer (some ⟨b18, 0, none⟩)), (73, Row.v (pairsR (m - bel n) (n - bel n) false x q).1.length r1), (79, .agg (arr8 y.1)), (80, .agg (arr8 (pairsR (m - bel n) (n - bel n) false x q).2.1))]) (fun _ => [(b18, Obj.cells (arr8 (pairsR (m - bel n) (n - bel n) false x q).2.1) 22 (0, 0)), (b14, Obj.cells (arr8 y.1) 22 (0, 0)), (b11, Obj.cells (arr8 (List.replicate 32 0)) 22 (0, 0))] ++ Row.b 60 r1) 8 #[true, false, false, false, false, false, true, true, false, false, false] ?_ (fun hmid20 => ?_)
      · -- state [0, 6, 7]
        rintro _ hq
        refine JA.branch [1, 2] (by kernel_rfl) rfl ?_
        refine JAll.cons rfl ?_ ?_
        · -- 1
          refine JO.val rfl rfl rfl (.none rfl) (Ev.lB Tryd.underlying22 Tryd.sizeOf22) ?_
          exact JA.weak rfl (by kernel_rfl) (by exact Keeps.k) (by exact Sub.k) (hmid12 () (by trivial))
        refine JAll.cons rfl ?_ JAll.nil
        refine JO.val rfl rfl rfl (.none rfl) (Ev.lB Tryd.underlying22 Tryd.sizeOf22) ?_
        exact JA.weak rfl (by kernel_rfl) (by exact Keeps.k) (by exact Sub.k) (hmid16 () (by trivial))
      refine JA.mid (X := Unit) (fun _ => True) (fun _ => [(11, .pointer (some ⟨b11, 0, none⟩)), (14, .pointer (some ⟨b14, 0, none⟩)), (18, .pointer (some ⟨b18, 0, none⟩)), (73, Row.v (pairsR (m - bel n) (n - bel n) false x q).1.length r1), (79, .agg (arr8 y.1))]) (fun _ => [(b18, Obj.cells (arr8 (pairsR (m - bel n) (n - bel n) false x q).2.1) 22 (0, 0)), (b14, Obj.cells (arr8 y.1) 22 (0, 0)), (b11, Obj.cells (arr8 (List.replicate 32 0)) 22 (0, 0))] ++ Row.b 60 r1) 9 #[true, false, false, false, false, false, true, false, false, false, false] ?_ (fun hmid21 => ?_)
      · -- state [0, 6]
        rintro _ hq
        refine JA.branch [1, 2, 7] (by kernel_rfl) rfl ?_
        refine JAll.cons rfl ?_ ?_
        · -- 1
          refine JO.val rfl rfl rfl (.none rfl) (Ev.lB Tryd.underlying22 Tryd.sizeOf22) ?_
          exact JA.weak rfl (by kernel_rfl) (by exact Keeps.k) (by exact Sub.k) (hmid13 () (by trivial))
        refine JAll.cons rfl ?_ ?_
        · -- 2
          refine JO.val rfl rfl rfl (.none rfl) (Ev.lB Tryd.underlying22 Tryd.sizeOf22) ?_
          exact JA.weak rfl (by kernel_rfl) (by exact Keeps.k) (by exact Sub.k) (hmid17 () (by trivial))
        refine JAll.cons rfl ?_ JAll.nil
        refine JO.val rfl rfl rfl (.none rfl) (Ev.lB Tryd.underlying22 Tryd.sizeOf22) ?_
        exact JA.weak rfl (by kernel_rfl) (by exact Keeps.k) (by exact Sub.k) (hmid20 () (by trivial))
      refine JA.mid (X := Unit) (fun _ => True) (fun _ => [(11, .pointer (some ⟨b11, 0, none⟩)), (14, .pointer (some ⟨b14, 0, none⟩)), (18, .pointer (some ⟨b18, 0, none⟩)), (73, Row.v (pairsR (m - bel n) (n - bel n) false x q).1.length r1), (80, .agg (arr8 (pairsR (m - bel n) (n - bel n) false x q).2.1))]) (fun _ => [(b18, Obj.cells (arr8 (pairsR (m - bel n) (n - bel n) false x q).2.1) 22 (0, 0)), (b14, Obj.cells (arr8 y.1) 22 (0, 0)), (b11, Obj.cells (arr8 (List.replicate 32 0)) 22 (0, 0))] ++ Row.b 60 r1) 9 #[true, false, false, false, false, false, false, true, false, false, false] ?_ (fun hmid22 => ?_)
      · -- state [0, 7]
        rintro _ hq
        refine JA.branch [1, 2, 6] (by kernel_rfl) rfl ?_
        refine JAll.cons rfl ?_ ?_
        · -- 1
          refine JO.val rfl rfl rfl (.none rfl) (Ev.lB Tryd.underlying22 Tryd.sizeOf22) ?_
          exact JA.weak rfl (by kernel_rfl) (by exact Keeps.k) (by exact Sub.k) (hmid14 () (by trivial))
        refine JAll.cons rfl ?_ ?_
        · -- 2
          refine JO.val rfl rfl rfl (.none rfl) (Ev.lB Tryd.underlying22 Tryd.sizeOf22) ?_
          exact JA.weak rfl (by kernel_rfl) (by exact Keeps.k) (by exact Sub.k) (hmid18 () (by trivial))
        refine JAll.cons rfl ?_ JAll.nil
        refine JO.val rfl rfl rfl (.none rfl) (Ev.lB Tryd.underlying22 Tryd.sizeOf22) ?_
        exact JA.weak rfl (by kernel_rfl) (by exact Keeps.k) (by exact Sub.k) (hmid20 () (by trivial))
      refine JA.tk 0 rfl (.none rfl) (fun _ => (Ev.move rfl)) ?_
      refine JA.branch [1, 2, 6, 7] (by kernel_rfl) rfl ?_
      refine JAll.cons rfl ?_ ?_
      · -- 1
        refine JO.val rfl rfl rfl (.none rfl) (Ev.lB Tryd.underlying22 Tryd.sizeOf22) ?_
        exact JA.weak rfl (by kernel_rfl) (by exact Keeps.k) (by exact Sub.k) (hmid15 () (by trivial))
      refine JAll.cons rfl ?_ ?_
      · -- 2
        refine JO.val rfl rfl rfl (.none rfl) (Ev.lB Tryd.underlying22 Tryd.sizeOf22) ?_
        exact JA.weak rfl (by kernel_rfl) (by exact Keeps.k) (by exact Sub.k) (hmid19 () (by trivial))
      refine JAll.cons rfl ?_ ?_
      · -- 6
        refine JO.val rfl rfl rfl (.none rfl) (Ev.lB Tryd.underlying22 Tryd.sizeOf22) ?_
        exact JA.weak rfl (by kernel_rfl) (by exact Keeps.k) (by exact Sub.k) (hmid21 () (by trivial))
      refine JAll.cons rfl ?_ JAll.nil
      refine JO.val rfl rfl rfl (.none rfl) (Ev.lB Tryd.underlying22 Tryd.sizeOf22) ?_
      exact JA.weak rfl (by kernel_rfl) (by exact Keeps.k) (by exact Sub.k) (hmid22 () (by trivial))
theorem pairsC_any (x : Dig) (m : Nat) (n : Nat) (fr : Bool) (oa : Option Addr) (cap : Nat) (ds : List Dig) (w : World) (hm1 : 1 ≤ m) (hm2 : m ≤ n) (hmx : n ≤ 1024) (hd : Dl w oa cap ds) (hst : ds.length = stepsC m n fr) (hk : KMem 1 w) (hf : FMem 0 w) :
    Calls Tryd.prog 30 #[.int .i64 (m : Int), .int .i64 (n : Int), .bool fr, .agg (arr8 x.1), .slice oa ds.length cap] w (Ret w (fun v H => ∃ r : Option Row, v = .tuple #[Row.v (pairsR m n fr x ds).1.length r, .agg (arr8 (pairsR m n fr x ds).2.1)] ∧ H = Row.b 60 r ∧ Row.ok 64 (pairsR m n fr x ds).1.length (fp (pairsR m n fr x ds).1) r)) := by
  have key : ∀ (N : Nat) (x : Dig) (m : Nat) (n : Nat) (fr : Bool) (oa : Option Addr) (cap : Nat) (ds : List Dig) (w : World) (hm1 : 1 ≤ m) (hm2 : m ≤ n) (hmx : n ≤ 1024) (hd : Dl w oa cap ds) (hst : ds.length = stepsC m n fr) (hk : KMem 1 w) (hf : FMem 0 w), n = N → Calls Tryd.prog 30 #[.int .i64 (m : Int), .int .i64 (n : Int), .bool fr, .agg (arr8 x.1), .slice oa ds.length cap] w (Ret w (fun v H => ∃ r : Option Row, v = .tuple #[Row.v (pairsR m n fr x ds).1.length r, .agg (arr8 (pairsR m n fr x ds).2.1)] ∧ H = Row.b 60 r ∧ Row.ok 64 (pairsR m n fr x ds).1.length (fp (pairsR m n fr x ds).1) r)) := by
    intro N
    induction N using Nat.strongRecOn with
    | _ N IH =>
      intro x m n fr oa cap ds w hm1 hm2 hmx hd hst hk hf hN
      exact pairsC_any_step N (fun x m n fr oa cap ds w hm1 hm2 hmx hd hst hk hf hlt => IH _ hlt x m n fr oa cap ds w hm1 hm2 hmx hd hst hk hf rfl) x m n fr oa cap ds w hm1 hm2 hmx hd hst hk hf hN
  exact key _ x m n fr oa cap ds w hm1 hm2 hmx hd hst hk hf rfl

end Go.Proofs.YtimegpilihfghaaDoor
