/-
  Boards: the nodes of the trees, in the law's own functions.
-/
import Derived.Test.YtopaednfjjjnbaaDoorNodeFk
import Derived.Test.YtopaednfjjjnbaaDoorBrd5Fk
namespace Go.Proofs.YtopaednfjjjnbaaDoor
open Go Go.RowKit
set_option maxRecDepth 100000

theorem nodesR_le : ∀ (f : Nat) (l : List Dig), l.length ≤ f → (nodesR l).length ≤ l.length
  | 0, l, hf => by rw [nodesR_small (by omega)]; exact Nat.zero_le _
  | f + 1, l, hf => by
    by_cases h2 : 2 ≤ l.length
    · have hb := bel_lt h2
      have hp := bel_pos l.length
      have ht : (l.take (bel l.length)).length = bel l.length := by rw [List.length_take]; omega
      have hd : (l.drop (bel l.length)).length = l.length - bel l.length := List.length_drop
      have h3 := nodesR_lt (bel l.length) (l.take (bel l.length)) (by omega) (by omega)
      have h4 := nodesR_le f (l.drop (bel l.length)) (by omega)
      rw [nodesR_split h2, List.length_append, List.length_append, List.length_singleton]
      omega
    · rw [nodesR_small (by omega)]; exact Nat.zero_le _
  where
  nodesR_lt : ∀ (f : Nat) (l : List Dig), l.length ≤ f → 1 ≤ l.length → (nodesR l).length < l.length
    | 0, l, hf, h1 => by omega
    | f + 1, l, hf, h1 => by
      by_cases h2 : 2 ≤ l.length
      · have hb := bel_lt h2
        have hp := bel_pos l.length
        have ht : (l.take (bel l.length)).length = bel l.length := by rw [List.length_take]; omega
        have hd : (l.drop (bel l.length)).length = l.length - bel l.length := List.length_drop
        have h3 := nodesR_lt f (l.take (bel l.length)) (by omega) (by omega)
        have h4 := nodesR_lt f (l.drop (bel l.length)) (by omega) (by omega)
        rw [nodesR_split h2, List.length_append, List.length_append, List.length_singleton]
        omega
      · rw [nodesR_small (by omega)]; exact h1
theorem stepsN_le : ∀ (f m n : Nat) (fr : Bool) (x : Dig) (p : List Dig), n ≤ f → 1 ≤ m → m ≤ n → (stepsN m n fr x p).length ≤ 2 * n
  | 0, m, n, fr, x, p, hf, h1, hm => by omega
  | f + 1, m, n, fr, x, p, hf, h1, hm => by
    by_cases he : m = n
    · rw [stepsN_top he]; exact Nat.zero_le _
    · have hb := bel_lt (n := n) (by omega)
      have hp := bel_pos n
      rw [stepsN, dif_neg (by omega)]
      split
      · rw [List.length_append]
        have := stepsN_le f m (bel n) fr x p.dropLast (by omega) h1 (by assumption)
        show _ + 1 ≤ 2 * n
        omega
      · rw [List.length_append]
        have := stepsN_le f (m - bel n) (n - bel n) false x p.dropLast (by omega) (by omega) (by omega)
        show _ + 2 ≤ 2 * n
        omega
section
variable {ps : List (Dig × Dig)} {i k : Nat} {x y : Dig × Dig}
theorem in_next (h : ∀ b, b < k → ∀ x y, ps[i]? = some x → ps[b]? = some y → nodeD x.1 x.2 = nodeD y.1 y.2 → x = y) (hx : ps[i]? = some x) (hy : ps[k]? = some y) (hxy : nodeD x.1 x.2 = nodeD y.1 y.2 → x = y) :
    ∀ b, b < k + 1 → ∀ x y, ps[i]? = some x → ps[b]? = some y → nodeD x.1 x.2 = nodeD y.1 y.2 → x = y := fun b hb u v hu hv hn => by
  rcases Nat.lt_or_ge b k with h1 | h1
  · exact h b h1 u v hu hv hn
  · obtain rfl : b = k := by omega
    rw [hx] at hu
    rw [hy] at hv
    obtain rfl := Option.some.inj hu
    obtain rfl := Option.some.inj hv
    exact hxy hn
theorem pw_next (h : ∀ a b, a < k → b < a → ∀ x y, ps[a]? = some x → ps[b]? = some y → nodeD x.1 x.2 = nodeD y.1 y.2 → x = y) (_ : ps[k]? = some x) (hi : ∀ b, b < k → ∀ x y, ps[k]? = some x → ps[b]? = some y → nodeD x.1 x.2 = nodeD y.1 y.2 → x = y) :
    ∀ a b, a < k + 1 → b < a → ∀ x y, ps[a]? = some x → ps[b]? = some y → nodeD x.1 x.2 = nodeD y.1 y.2 → x = y := fun a b ha hb u v hu hv hn => by
  rcases Nat.lt_or_ge a k with h1 | h1
  · exact h a b h1 hb u v hu hv hn
  · obtain rfl : a = k := by omega
    exact hi b hb u v hu hv hn
theorem pw_end (h : ∀ a b, a < ps.length → b < a → ∀ x y, ps[a]? = some x → ps[b]? = some y → nodeD x.1 x.2 = nodeD y.1 y.2 → x = y) : InjN ps := fun u hu v hv hn => by
  obtain ⟨a, ha⟩ := List.getElem?_of_mem hu
  obtain ⟨b, hb⟩ := List.getElem?_of_mem hv
  rcases Nat.lt_trichotomy a b with h1 | h1 | h1
  · exact (h b a (List.getElem?_eq_some_iff.1 hb).1 h1 v u hb ha hn.symm).symm
  · subst h1
    rw [ha] at hb
    exact Option.some.inj hb
  · exact h a b (List.getElem?_eq_some_iff.1 ha).1 h1 u v ha hb hn
end

theorem fbelow_any (n : Nat) (h2 : 2 ≤ n) (hn : n ≤ 2000000) (w : World) :
    Calls Tryd.prog 79 #[.int .i64 (n : Int)] w (Ret w (fun v _ => v = .int .i64 ((bel n : Nat) : Int))) := by
  refine enter (vs := [.int .i64 (n : Int)]) Tryd.func79 rfl Tryd.ntmps79 rfl ?_
  refine JC.seq ?_
  refine JC.region ?_
  refine JL.asg ?_
  refine JL.nil ?_
  refine JQ.thenN ?_
  refine JC.seq ?_
  refine JC.region ?_
  refine JL.asg ?_
  refine JL.nil ?_
  refine JQ.thenN ?_
  refine JC.seq ?_
  refine JC.block ?_
  refine JC.loop (X := Nat × Nat)
    (fun ⟨j, p⟩ => [(0, .int .i64 (n : Int)), (3, .int .i64 (p : Int))])
    (fun ⟨j, p⟩ => [])
    (fun ⟨j, p⟩ => p = 2 ^ j ∧ p < n)
    (fun ⟨j, p⟩ => n - p) (0, 1) ?_ ?_ ?_ ?_
  · exact Keeps.k
  · exact Sub.k
  · exact ⟨rfl, by omega⟩
  rintro ⟨j, p⟩ ⟨hp, hpn⟩
  have hp1 : 1 ≤ p := by rw [hp]; exact Nat.one_le_two_pow
  refine JC.seq ?_
  refine JC.seq ?_
  refine JC.region ?_
  refine JL.mv ?_
  refine JL.val rfl rfl rfl (.none rfl) (Ev.bin rfl rfl (mul_i64 (by omega))) ?_
  refine JL.mv ?_
  refine JL.val rfl rfl rfl (.none rfl) (Ev.bin rfl rfl lss_int) ?_
  refine JL.nil ?_
  refine JQ.thenN ?_
  refine JC.cond rfl (fun hc1 => ?_) (fun hc1 => ?_)
  · -- t7 True
    replace hc1 := of_decide_eq_true hc1
    refine JC.skip ?_
    refine JQ.thenN ?_
    refine JC.block ?_
    refine JC.region ?_
    refine JL.mv ?_
    refine JL.val rfl rfl rfl (.none rfl) (Ev.bin rfl rfl (mul_i64 (by omega))) ?_
    refine JL.asg ?_
    refine JL.nil ?_
    refine JQ.blockN ?_
    refine JQ.re (d := 3) (v' := .int .i64 ((2 * p : Nat) : Int)) rfl (congrArg (Value.int .i64) (by omega)) ?_
    refine JQ.loopN (j + 1, 2 * p) ?_ ?_ ?_ ?_
    · exact Keeps.k
    · exact Sub.k
    · exact ⟨by rw [Nat.pow_succ, ← hp]; omega, by omega⟩
    · show n - 2 * p < n - p; omega
  · -- t7 False
    replace hc1 := of_decide_eq_false hc1
    refine JC.exit ?_
    refine JQ.thenE ?_
    refine JQ.thenE ?_
    refine JQ.blockE ?_
    refine JQ.thenN ?_
    refine JC.seq ?_
    refine JC.region ?_
    refine JL.mv ?_
    refine JL.asg ?_
    refine JL.nil ?_
    refine JQ.thenN ?_
    refine JC.ret ?_
    refine JQ.end1 (H' := []) (.inl rfl) rfl (.tmp rfl) ?_ ?_
    · exact Sub.k
    · exact congrArg (fun x : Nat => Value.int .i64 (x : Int)) (by rw [hp]; exact (bel_of (by omega) (by rw [Nat.pow_succ, ← hp]; omega)).symm)

theorem fpair_any (a b : Dig) (w : World) (hk : KMem 1 w) (hf : FMem 0 w) :
    Calls Tryd.prog 80 #[.agg (arr8 a.1), .agg (arr8 b.1)] w (Ret w (fun v _ => v = .agg (nfl [(a, b)]).toArray)) := by
  refine enter (vs := [.agg (arr8 a.1), .agg (arr8 b.1)]) Tryd.func80 rfl Tryd.ntmps80 rfl ?_
  refine JC.seq ?_
  refine JC.region ?_
  refine JL.new rfl rfl rfl (.none rfl) (En.boxA rfl) (fun b2 hb2 => ?_)
  refine JL.new rfl rfl rfl (.none rfl) (En.boxA rfl) (fun b3 hb3 => ?_)
  refine JL.new rfl rfl rfl (.none rfl) (En.allocZ (cs := (fl [zeroD, zeroD, zeroD]).toArray) Tryd.zeroValue123 rfl) (fun b4 hb4 => ?_)
  refine JL.nil ?_
  refine JQ.thenN ?_
  refine JC.seq ?_
  refine JC.regionT 6 (by kernel_rfl) (by kernel_rfl) (List.take_append_drop 6 _).symm rfl ?_
  refine JW.val rfl rfl (.none rfl) (Ev.lB Tryd.underlying33 Tryd.sizeOf33) ?_
  refine JW.val rfl rfl (.none rfl) (Ev.lB Tryd.underlying33 Tryd.sizeOf33) ?_
  refine JW.val rfl rfl (.none rfl) (Ev.lB Tryd.underlying33 Tryd.sizeOf33) ?_
  refine JW.val rfl rfl (.none rfl) (Ev.lB Tryd.underlying33 Tryd.sizeOf33) ?_
  refine JW.call rfl (.none rfl) rfl Tryd.call104 (fun w1 hw1 => nodeG_any a b w1 (hk.old hw1) (hf.old hw1)) ?_
  refine JW.val rfl rfl (.none rfl) (Ev.buNode rfl rfl rfl Tryd.underlying123 (fun _ => by kernel_rfl) Tryd.zeroValue123) ?_
  refine JW.tail ?_
  refine JL.sto rfl rfl (.none rfl) (Es.storeA rfl rfl Tryd.sizeOf123 Upd.k (nfl_size _) (by rw [List.size_toArray, fl_length]; rfl) (fun u hu => nfl_one _ u hu)) ?_
  refine JL.nil ?_
  refine JQ.thenN ?_
  refine JC.ret ?_
  refine JQ.end1 (H' := []) (.inl rfl) rfl (.agg rfl memK Tryd.underlying123 rfl Tryd.sizeOf123 (nfl_size _)) ?_ ?_
  · exact Sub.k
  · rfl

theorem fnodes_any_step (N : Nat) (ih : ∀ (oa : Option Addr) (cap : Nat) (ds : List Dig) (w : World) (_ : Dl w oa cap ds) (_ : 1 ≤ ds.length) (_ : ds.length ≤ 1024) (_ : KMem 1 w) (_ : FMem 0 w), ds.length < N → Calls Tryd.prog 42 #[.slice oa ds.length cap] w (Ret w (fun v H => ∃ r : Option Row, v = .tuple #[Row.v (nodesR ds).length r, .agg (arr8 (rootR ds).1)] ∧ H = Row.b 123 r ∧ Row.ok 96 (nodesR ds).length (nfl (nodesR ds)) r))) (oa : Option Addr) (cap : Nat) (ds : List Dig) (w : World) (hd : Dl w oa cap ds) (h1 : 1 ≤ ds.length) (hmx : ds.length ≤ 1024) (hk : KMem 1 w) (hf : FMem 0 w) (hN : ds.length = N) :
    Calls Tryd.prog 42 #[.slice oa ds.length cap] w (Ret w (fun v H => ∃ r : Option Row, v = .tuple #[Row.v (nodesR ds).length r, .agg (arr8 (rootR ds).1)] ∧ H = Row.b 123 r ∧ Row.ok 96 (nodesR ds).length (nfl (nodesR ds)) r)) := by
  refine enter (vs := [.slice oa ds.length cap]) Tryd.func42 rfl Tryd.ntmps42 rfl ?_
  refine JC.seq ?_
  refine JC.region ?_
  refine JL.asg ?_
  refine JL.new rfl rfl rfl (.none rfl) (En.allocZ (cs := arr8 (List.replicate 32 0)) Tryd.zeroValue33 rfl) (fun b3 hb3 => ?_)
  refine JL.nil ?_
  refine JQ.thenN ?_
  refine JC.seq ?_
  refine JC.seq ?_
  refine JC.region ?_
  refine JL.mv ?_
  refine JL.val rfl rfl rfl (.none rfl) (Ev.lenS rfl Tryd.underlying39) ?_
  refine JL.val rfl rfl rfl (.none rfl) (Ev.bin rfl rfl eql_int) ?_
  refine JL.nil ?_
  refine JQ.thenN ?_
  refine JC.cond rfl (fun hc1 => ?_) (fun hc1 => ?_)
  · -- t12 True
    replace hc1 := of_decide_eq_true hc1
    have h1e : ds.length = 1 := by omega
    obtain ⟨a, rfl⟩ := Cs.get_some hd (by omega)
    obtain ⟨d, hd0⟩ := get_some (l := ds) (k := 0) (by omega)
    refine JC.seq ?_
    refine JC.regionT 4 (by kernel_rfl) (by kernel_rfl) (List.take_append_drop 4 _).symm rfl ?_
    refine JW.val rfl rfl (.none rfl) (Ev.move rfl) ?_
    refine JW.val rfl rfl (.none rfl) (Ev.idxS (k := 0) rfl rfl Tryd.underlying39 Tryd.sizeOf33 rfl (by omega)) ?_
    refine JW.val rfl rfl (.none rfl) (Ev.loadD rfl Tryd.underlying33 rfl Tryd.sizeOf33 (Rds.old ((hd.mem a rfl).atD hd0))) ?_
    refine JW.val rfl rfl (.none rfl) (Ev.assign rfl) ?_
    refine JW.tail ?_
    refine JL.sto rfl rfl (.none rfl) (Es.sA Tryd.sizeOf33) ?_
    refine JL.nil ?_
    refine JQ.thenN ?_
    refine JC.ret ?_
    refine JQ.thenR ?_
    refine JQ.end2 (H' := []) (.inl rfl) rfl (.tmp rfl) (.agg rfl memK Tryd.underlying33 rfl Tryd.sizeOf33 szK) ?_ ?_
    · first | exact Sub.all | exact Sub.nil | exact Sub.of_cnt (fun a => by (try dsimp only); simp only [cntA]; omega)
    · exact ⟨none, by rw [nodesR_small (by omega), rootR_len1 h1e hd0]; rfl, rfl, by rw [nodesR_small (by omega)]; exact Row.ok0⟩
  · -- t12 False
    replace hc1 := of_decide_eq_false hc1
    have h2 : 2 ≤ ds.length := by omega
    have hbl := bel_lt h2
    have hbp := bel_pos ds.length
    obtain ⟨ob, eob, hob⟩ := Dl.drop hd (show bel ds.length ≤ ds.length by omega)
    have htl : (ds.take (bel ds.length)).length = bel ds.length := by rw [List.length_take]; omega
    have hdl : (ds.drop (bel ds.length)).length = ds.length - bel ds.length := List.length_drop
    have hpl : (nodesR (ds.take (bel ds.length))).length + (nodesR (ds.drop (bel ds.length))).length + 1 ≤ 4000 := by have h3 := nodesR_le (ds.take (bel ds.length)).length (ds.take (bel ds.length)) (Nat.le_refl _); have h4 := nodesR_le (ds.drop (bel ds.length)).length (ds.drop (bel ds.length)) (Nat.le_refl _); omega
    refine JC.skip ?_
    refine JQ.thenN ?_
    refine JC.seq ?_
    refine JC.region ?_
    refine JL.mv ?_
    refine JL.val rfl rfl rfl (.none rfl) (Ev.lenS rfl Tryd.underlying39) ?_
    refine JL.callV rfl (.none rfl) rfl Tryd.call79 (fun w1 hw1 => fbelow_any ds.length h2 (by omega) w1) ?_
    refine JL.asg ?_
    refine JL.nil ?_
    refine JQ.thenN ?_
    refine JC.seq ?_
    refine JC.region ?_
    refine JL.mv ?_
    refine JL.mv ?_
    refine JL.val rfl rfl rfl (.none rfl) (Ev.cast (v' := .slice oa (ds.take (bel ds.length)).length cap) (by rw [sub3_0, htl]) (Ev.sliceHi rfl rfl Tryd.underlying39 Tryd.sizeOf33 (h := bel ds.length) rfl (by have := hd.le; omega))) ?_
    refine JL.callN rfl (.none rfl) rfl Tryd.call42 (fun w1 hw1 => ih oa cap (ds.take (bel ds.length)) w1 (Dl.take (hd.old hw1) (by omega)) (by omega) (by omega) (hk.old hw1) (hf.old hw1) (by omega)) ?_
    rintro _ _ ⟨r1, rfl, rfl, hr1⟩
    refine JL.mv ?_
    refine JL.val rfl rfl rfl (.none rfl) (Ev.ex0 rfl) ?_
    refine JL.val rfl rfl rfl (.none rfl) (Ev.ex1 rfl) ?_
    refine JL.new rfl rfl rfl (.none rfl) (En.allocZ (cs := arr8 (List.replicate 32 0)) Tryd.zeroValue33 rfl) (fun b6 hb6 => ?_)
    refine JL.asg ?_
    refine JL.sto rfl rfl (.none rfl) (Es.sA Tryd.sizeOf33) ?_
    refine JL.nil ?_
    refine JQ.thenN ?_
    refine JC.seq ?_
    refine JC.region ?_
    refine JL.mv ?_
    refine JL.mv ?_
    refine JL.val rfl rfl rfl (.none rfl) (Ev.cast (v' := .slice ob (ds.drop (bel ds.length)).length (cap - bel ds.length)) (eob) (Ev.sliceLo rfl rfl Tryd.underlying39 Tryd.sizeOf33 (l := bel ds.length) rfl (by omega))) ?_
    refine JL.callN rfl (.none rfl) rfl Tryd.call42 (fun w1 hw1 => ih ob (cap - bel ds.length) (ds.drop (bel ds.length)) w1 (hob w1 (hd.old hw1)) (by omega) (by omega) (hk.old hw1) (hf.old hw1) (by omega)) ?_
    rintro _ _ ⟨r2, rfl, rfl, hr2⟩
    refine JL.mv ?_
    refine JL.val rfl rfl rfl (.none rfl) (Ev.ex0 rfl) ?_
    refine JL.val rfl rfl rfl (.none rfl) (Ev.ex1 rfl) ?_
    refine JL.new rfl rfl rfl (.none rfl) (En.allocZ (cs := arr8 (List.replicate 32 0)) Tryd.zeroValue33 rfl) (fun b8 hb8 => ?_)
    refine JL.asg ?_
    refine JL.sto rfl rfl (.none rfl) (Es.sA Tryd.sizeOf33) ?_
    refine JL.nil ?_
    refine JQ.thenN ?_
    refine JC.seq ?_
    refine JC.region ?_
    refine JL.val rfl rfl rfl (.none rfl) (Ev.lB Tryd.underlying33 Tryd.sizeOf33) ?_
    refine JL.val rfl rfl rfl (.none rfl) (Ev.lB Tryd.underlying33 Tryd.sizeOf33) ?_
    refine JL.callV rfl (.none rfl) rfl Tryd.call80 (fun w1 hw1 => fpair_any (rootR (ds.take (bel ds.length))) (rootR (ds.drop (bel ds.length))) w1 (hk.old hw1) (hf.old hw1)) ?_
    refine JL.new rfl rfl rfl (.none rfl) (En.allocZ (cs := (fl [zeroD, zeroD, zeroD]).toArray) Tryd.zeroValue123 rfl) (fun b9 hb9 => ?_)
    refine JL.sto rfl rfl (.none rfl) (Es.storeA rfl rfl Tryd.sizeOf123 Upd.k (nfl_size _) (by rw [List.size_toArray, fl_length]; rfl) (fun u hu => nfl_one _ u hu)) ?_
    refine JL.nil ?_
    refine JQ.thenN ?_
    refine JC.seq ?_
    refine JC.cut (X := {rn : Row // Row.ok 96 ((nodesR (ds.take (bel ds.length))).length + (nodesR (ds.drop (bel ds.length))).length + 1) (nfl (nodesR (ds.take (bel ds.length))) ++ nfl (nodesR (ds.drop (bel ds.length))) ++ nfl [(rootR (ds.take (bel ds.length)), rootR (ds.drop (bel ds.length)))]) (some rn)}) (fun ⟨rn, hrn⟩ => [(2, Row.v ((nodesR (ds.take (bel ds.length))).length + (nodesR (ds.drop (bel ds.length))).length + 1) (some rn)), (3, .pointer (some ⟨b3, 0, none⟩))]) (fun ⟨rn, hrn⟩ => [(b3, Obj.cells (arr8 (nodeD (rootR (ds.take (bel ds.length))) (rootR (ds.drop (bel ds.length)))).1) 33 (0, 0))] ++ Row.b 123 (some rn)) ?_ ?_
    · refine JC.regionA (by kernel_rfl) ?_
      refine JA.mid (X := Option Row × Nat × Row) (fun ⟨r3, bq, rn⟩ => Row.ok 96 ((nodesR (ds.take (bel ds.length))).length + (nodesR (ds.drop (bel ds.length))).length + 1) (nfl (nodesR (ds.take (bel ds.length))) ++ nfl (nodesR (ds.drop (bel ds.length))) ++ nfl [(rootR (ds.take (bel ds.length)), rootR (ds.drop (bel ds.length)))]) (some rn)) (fun ⟨r3, bq, rn⟩ => [(2, Row.v ((nodesR (ds.take (bel ds.length))).length + (nodesR (ds.drop (bel ds.length))).length + 1) (some rn)), (43, .agg (arr8 (nodeD (rootR (ds.take (bel ds.length))) (rootR (ds.drop (bel ds.length)))).1)), (42, .pointer (some ⟨b9, 0 + 64, none⟩)), (41, Row.v ((nodesR (ds.take (bel ds.length))).length + (nodesR (ds.drop (bel ds.length))).length + 1) (some rn)), (39, .agg (nfl [(rootR (ds.take (bel ds.length)), rootR (ds.drop (bel ds.length)))]).toArray), (3, .pointer (some ⟨b3, 0, none⟩)), (9, .pointer (some ⟨b9, 0, none⟩))]) (fun ⟨r3, bq, rn⟩ => ([(bq, Obj.cells (nfl [(rootR (ds.take (bel ds.length)), rootR (ds.drop (bel ds.length)))]).toArray 123 (0, 0)), (b9, Obj.cells (nfl [(rootR (ds.take (bel ds.length)), rootR (ds.drop (bel ds.length)))]).toArray 123 (0, 0)), (b3, Obj.cells (arr8 (List.replicate 32 0)) 33 (0, 0))] ++ (Row.b 123 (some rn)))) 1 #[true, true, true, true, true, true, true, true, true, false] ?_ (fun hmid0 => ?_)
      · -- state [0, 1, 2, 3, 4, 5, 6, 7, 8]
        rintro ⟨r3, bq, rn⟩ hrn
        refine JA.one 9 ?_
        refine JO.sto rfl rfl (.none rfl) (Es.sA Tryd.sizeOf33) ?_
        refine JA.done (by kernel_rfl) ?_
        refine JQ.cutN ⟨rn, hrn⟩ ?_ ?_
        · exact Keeps.k
        · exact Sub.k
      refine JA.mid (X := Option Row × Nat × Row) (fun ⟨r3, bq, rn⟩ => Row.ok 96 ((nodesR (ds.take (bel ds.length))).length + (nodesR (ds.drop (bel ds.length))).length + 1) (nfl (nodesR (ds.take (bel ds.length))) ++ nfl (nodesR (ds.drop (bel ds.length))) ++ nfl [(rootR (ds.take (bel ds.length)), rootR (ds.drop (bel ds.length)))]) (some rn)) (fun ⟨r3, bq, rn⟩ => [(2, Row.v ((nodesR (ds.take (bel ds.length))).length + (nodesR (ds.drop (bel ds.length))).length + 1) (some rn)), (42, .pointer (some ⟨b9, 0 + 64, none⟩)), (41, Row.v ((nodesR (ds.take (bel ds.length))).length + (nodesR (ds.drop (bel ds.length))).length + 1) (some rn)), (39, .agg (nfl [(rootR (ds.take (bel ds.length)), rootR (ds.drop (bel ds.length)))]).toArray), (3, .pointer (some ⟨b3, 0, none⟩)), (9, .pointer (some ⟨b9, 0, none⟩))]) (fun ⟨r3, bq, rn⟩ => ([(bq, Obj.cells (nfl [(rootR (ds.take (bel ds.length)), rootR (ds.drop (bel ds.length)))]).toArray 123 (0, 0)), (b9, Obj.cells (nfl [(rootR (ds.take (bel ds.length)), rootR (ds.drop (bel ds.length)))]).toArray 123 (0, 0)), (b3, Obj.cells (arr8 (List.replicate 32 0)) 33 (0, 0))] ++ (Row.b 123 (some rn)))) 2 #[true, true, true, true, true, true, true, false, true, false] ?_ (fun hmid1 => ?_)
      · -- state [0, 1, 2, 3, 4, 5, 6, 8]
        rintro ⟨r3, bq, rn⟩ hrn
        refine JA.one 7 ?_
        refine JO.val rfl rfl rfl (.none rfl) (Ev.loadA (l := (nodeD ((rootR (ds.take (bel ds.length)), rootR (ds.drop (bel ds.length)))).1 ((rootR (ds.take (bel ds.length)), rootR (ds.drop (bel ds.length)))).2).1.map u8) rfl Tryd.underlying33 rfl Tryd.sizeOf33 (Rds.ntop (p := (rootR (ds.take (bel ds.length)), rootR (ds.drop (bel ds.length)))) memK) (by rw [List.length_map]; exact (nodeD ((rootR (ds.take (bel ds.length)), rootR (ds.drop (bel ds.length)))).1 ((rootR (ds.take (bel ds.length)), rootR (ds.drop (bel ds.length)))).2).2)) ?_
        exact JA.weak rfl (by kernel_rfl) (by exact Keeps.k) (by exact Sub.k) (hmid0 (none, bq, rn) (by exact hrn))
      refine JA.mid (X := Option Row × Nat × Row) (fun ⟨r3, bq, rn⟩ => Row.ok 96 ((nodesR (ds.take (bel ds.length))).length + (nodesR (ds.drop (bel ds.length))).length) (nfl (nodesR (ds.take (bel ds.length))) ++ nfl (nodesR (ds.drop (bel ds.length)))) r3) (fun ⟨r3, bq, rn⟩ => [(43, .agg (arr8 (nodeD (rootR (ds.take (bel ds.length))) (rootR (ds.drop (bel ds.length)))).1)), (42, .pointer (some ⟨b9, 0 + 64, none⟩)), (40, .slice (some ⟨bq, 0, none⟩) 1 1), (39, .agg (nfl [(rootR (ds.take (bel ds.length)), rootR (ds.drop (bel ds.length)))]).toArray), (38, Row.v ((nodesR (ds.take (bel ds.length))).length + (nodesR (ds.drop (bel ds.length))).length) r3), (3, .pointer (some ⟨b3, 0, none⟩)), (9, .pointer (some ⟨b9, 0, none⟩))]) (fun ⟨r3, bq, rn⟩ => ([(bq, Obj.cells (nfl [(rootR (ds.take (bel ds.length)), rootR (ds.drop (bel ds.length)))]).toArray 123 (0, 0)), (b9, Obj.cells (nfl [(rootR (ds.take (bel ds.length)), rootR (ds.drop (bel ds.length)))]).toArray 123 (0, 0)), (b3, Obj.cells (arr8 (List.replicate 32 0)) 33 (0, 0))] ++ (Row.b 123 r3))) 3 #[true, true, true, true, true, false, true, true, false, false] ?_ (fun hmid2 => ?_)
      · -- state [0, 1, 2, 3, 4, 6, 7]
        rintro ⟨r3, bq, rn⟩ hr3
        refine JA.one 5 ?_
        refine JO.gen rfl rfl rfl (.none rfl) (Eg.append1 (r := r3) (n := (nodesR (ds.take (bel ds.length))).length + (nodesR (ds.drop (bel ds.length))).length) (xs := nfl (nodesR (ds.take (bel ds.length))) ++ nfl (nodesR (ds.drop (bel ds.length)))) (news := nfl [(rootR (ds.take (bel ds.length)), rootR (ds.drop (bel ds.length)))]) (z := (.agg (fl [zeroD, zeroD, zeroD]).toArray)) (s := 96) (bytes := 96) rfl rfl rfl Cut.k Tryd.underlying78 (by kernel_rfl) (by rw [show (Value.agg (fl [zeroD, zeroD, zeroD]).toArray).cells = (fl [zeroD, zeroD, zeroD]).toArray from rfl, List.size_toArray, fl_length]; rfl) (by decide) (by decide) hr3 (Rds.all memK) (nfl_length _) (by decide) (nfl_one _) (by have := hpl; omega)) ?_
        rintro _ _ ⟨rn, rfl, rfl, hrn⟩
        refine JA.tkc 8 rfl (.none rfl) (fun _ => (Ev.assign rfl)) ?_
        exact JA.weak rfl (by kernel_rfl) (by exact Keeps.k) (by exact Sub.k) (hmid0 (none, bq, rn) (by exact hrn))
      refine JA.mid (X := Option Row × Nat × Row) (fun ⟨r3, bq, rn⟩ => Row.ok 96 ((nodesR (ds.take (bel ds.length))).length + (nodesR (ds.drop (bel ds.length))).length) (nfl (nodesR (ds.take (bel ds.length))) ++ nfl (nodesR (ds.drop (bel ds.length)))) r3) (fun ⟨r3, bq, rn⟩ => [(42, .pointer (some ⟨b9, 0 + 64, none⟩)), (40, .slice (some ⟨bq, 0, none⟩) 1 1), (39, .agg (nfl [(rootR (ds.take (bel ds.length)), rootR (ds.drop (bel ds.length)))]).toArray), (38, Row.v ((nodesR (ds.take (bel ds.length))).length + (nodesR (ds.drop (bel ds.length))).length) r3), (3, .pointer (some ⟨b3, 0, none⟩)), (9, .pointer (some ⟨b9, 0, none⟩))]) (fun ⟨r3, bq, rn⟩ => ([(bq, Obj.cells (nfl [(rootR (ds.take (bel ds.length)), rootR (ds.drop (bel ds.length)))]).toArray 123 (0, 0)), (b9, Obj.cells (nfl [(rootR (ds.take (bel ds.length)), rootR (ds.drop (bel ds.length)))]).toArray 123 (0, 0)), (b3, Obj.cells (arr8 (List.replicate 32 0)) 33 (0, 0))] ++ (Row.b 123 r3))) 4 #[true, true, true, true, true, false, true, false, false, false] ?_ (fun hmid3 => ?_)
      · -- state [0, 1, 2, 3, 4, 6]
        rintro ⟨r3, bq, rn⟩ hr3
        refine JA.branch [5, 7] (by kernel_rfl) rfl ?_
        refine JAll.cons rfl ?_ ?_
        · -- 5
          refine JO.gen rfl rfl rfl (.none rfl) (Eg.append1 (r := r3) (n := (nodesR (ds.take (bel ds.length))).length + (nodesR (ds.drop (bel ds.length))).length) (xs := nfl (nodesR (ds.take (bel ds.length))) ++ nfl (nodesR (ds.drop (bel ds.length)))) (news := nfl [(rootR (ds.take (bel ds.length)), rootR (ds.drop (bel ds.length)))]) (z := (.agg (fl [zeroD, zeroD, zeroD]).toArray)) (s := 96) (bytes := 96) rfl rfl rfl Cut.k Tryd.underlying78 (by kernel_rfl) (by rw [show (Value.agg (fl [zeroD, zeroD, zeroD]).toArray).cells = (fl [zeroD, zeroD, zeroD]).toArray from rfl, List.size_toArray, fl_length]; rfl) (by decide) (by decide) hr3 (Rds.all memK) (nfl_length _) (by decide) (nfl_one _) (by have := hpl; omega)) ?_
          rintro _ _ ⟨rn, rfl, rfl, hrn⟩
          refine JA.tkc 8 rfl (.none rfl) (fun _ => (Ev.assign rfl)) ?_
          exact JA.weak rfl (by kernel_rfl) (by exact Keeps.k) (by exact Sub.k) (hmid1 (none, bq, rn) (by exact hrn))
        refine JAll.cons rfl ?_ JAll.nil
        refine JO.val rfl rfl rfl (.none rfl) (Ev.loadA (l := (nodeD ((rootR (ds.take (bel ds.length)), rootR (ds.drop (bel ds.length)))).1 ((rootR (ds.take (bel ds.length)), rootR (ds.drop (bel ds.length)))).2).1.map u8) rfl Tryd.underlying33 rfl Tryd.sizeOf33 (Rds.ntop (p := (rootR (ds.take (bel ds.length)), rootR (ds.drop (bel ds.length)))) memK) (by rw [List.length_map]; exact (nodeD ((rootR (ds.take (bel ds.length)), rootR (ds.drop (bel ds.length)))).1 ((rootR (ds.take (bel ds.length)), rootR (ds.drop (bel ds.length)))).2).2)) ?_
        exact JA.weak rfl (by kernel_rfl) (by exact Keeps.k) (by exact Sub.k) (hmid2 (r3, bq, ⟨0, 0, #[]⟩) (by exact hr3))
      refine JA.mid (X := Option Row × Nat × Row) (fun ⟨r3, bq, rn⟩ => Row.ok 96 ((nodesR (ds.take (bel ds.length))).length + (nodesR (ds.drop (bel ds.length))).length) (nfl (nodesR (ds.take (bel ds.length))) ++ nfl (nodesR (ds.drop (bel ds.length)))) r3) (fun ⟨r3, bq, rn⟩ => [(43, .agg (arr8 (nodeD (rootR (ds.take (bel ds.length))) (rootR (ds.drop (bel ds.length)))).1)), (42, .pointer (some ⟨b9, 0 + 64, none⟩)), (39, .agg (nfl [(rootR (ds.take (bel ds.length)), rootR (ds.drop (bel ds.length)))]).toArray), (38, Row.v ((nodesR (ds.take (bel ds.length))).length + (nodesR (ds.drop (bel ds.length))).length) r3), (3, .pointer (some ⟨b3, 0, none⟩)), (9, .pointer (some ⟨b9, 0, none⟩))]) (fun ⟨r3, bq, rn⟩ => ([(b9, Obj.cells (nfl [(rootR (ds.take (bel ds.length)), rootR (ds.drop (bel ds.length)))]).toArray 123 (0, 0)), (b3, Obj.cells (arr8 (List.replicate 32 0)) 33 (0, 0))] ++ (Row.b 123 r3))) 4 #[true, true, true, true, false, false, true, true, false, false] ?_ (fun hmid4 => ?_)
      · -- state [0, 1, 2, 3, 6, 7]
        rintro ⟨r3, bq, rn⟩ hr3
        refine JA.one 4 ?_
        refine JO.new rfl rfl rfl (.none rfl) (En.bs1N rfl Tryd.underlying78 Tryd.sizeOf123 Tryd.zeroValue123) (fun b40 hb40 => ?_)
        obtain ⟨bq, rfl⟩ : ∃ b, b = b40 := ⟨_, rfl⟩
        exact JA.weak rfl (by kernel_rfl) (by exact Keeps.k) (by exact Sub.k) (hmid2 (r3, bq, ⟨0, 0, #[]⟩) (by exact hr3))
      refine JA.mid (X := Option Row × Nat × Row) (fun ⟨r3, bq, rn⟩ => True) (fun ⟨r3, bq, rn⟩ => [(43, .agg (arr8 (nodeD (rootR (ds.take (bel ds.length))) (rootR (ds.drop (bel ds.length)))).1)), (42, .pointer (some ⟨b9, 0 + 64, none⟩)), (40, .slice (some ⟨bq, 0, none⟩) 1 1), (39, .agg (nfl [(rootR (ds.take (bel ds.length)), rootR (ds.drop (bel ds.length)))]).toArray), (37, Row.v (nodesR (ds.drop (bel ds.length))).length r2), (36, Row.v (nodesR (ds.take (bel ds.length))).length r1), (3, .pointer (some ⟨b3, 0, none⟩)), (9, .pointer (some ⟨b9, 0, none⟩))]) (fun ⟨r3, bq, rn⟩ => ([(bq, Obj.cells (nfl [(rootR (ds.take (bel ds.length)), rootR (ds.drop (bel ds.length)))]).toArray 123 (0, 0)), (b9, Obj.cells (nfl [(rootR (ds.take (bel ds.length)), rootR (ds.drop (bel ds.length)))]).toArray 123 (0, 0)), (b3, Obj.cells (arr8 (List.replicate 32 0)) 33 (0, 0))] ++ (Row.b 123 r1 ++ Row.b 123 r2))) 4 #[true, true, false, true, true, false, true, true, false, false] ?_ (fun hmid5 => ?_)
      · -- state [0, 1, 3, 4, 6, 7]
        rintro ⟨r3, bq, rn⟩ _
        refine JA.one 2 ?_
        refine JO.gen rfl rfl rfl (.none rfl) (Eg.appendR (r := r1) (r1 := r2) (n := (nodesR (ds.take (bel ds.length))).length) (m := (nodesR (ds.drop (bel ds.length))).length) (xs := nfl (nodesR (ds.take (bel ds.length)))) (news := nfl (nodesR (ds.drop (bel ds.length)))) (z := (.agg (fl [zeroD, zeroD, zeroD]).toArray)) (s := 96) (bytes := 96) rfl rfl rfl rfl Cut.k Tryd.underlying78 (by kernel_rfl) (by rw [show (Value.agg (fl [zeroD, zeroD, zeroD]).toArray).cells = (fl [zeroD, zeroD, zeroD]).toArray from rfl, List.size_toArray, fl_length]; rfl) (by decide) (by decide) hr1 hr2 (fun p hp => by simp [hp]) (nfl_one _) (by have := hpl; omega)) ?_
        rintro _ _ ⟨r3, rfl, rfl, hr3, _⟩
        exact JA.weak rfl (by kernel_rfl) (by exact Keeps.k) (by exact Sub.k) (hmid2 (r3, bq, ⟨0, 0, #[]⟩) (by exact hr3))
      refine JA.mid (X := Option Row × Nat × Row) (fun ⟨r3, bq, rn⟩ => Row.ok 96 ((nodesR (ds.take (bel ds.length))).length + (nodesR (ds.drop (bel ds.length))).length) (nfl (nodesR (ds.take (bel ds.length))) ++ nfl (nodesR (ds.drop (bel ds.length)))) r3) (fun ⟨r3, bq, rn⟩ => [(42, .pointer (some ⟨b9, 0 + 64, none⟩)), (39, .agg (nfl [(rootR (ds.take (bel ds.length)), rootR (ds.drop (bel ds.length)))]).toArray), (38, Row.v ((nodesR (ds.take (bel ds.length))).length + (nodesR (ds.drop (bel ds.length))).length) r3), (3, .pointer (some ⟨b3, 0, none⟩)), (9, .pointer (some ⟨b9, 0, none⟩))]) (fun ⟨r3, bq, rn⟩ => ([(b9, Obj.cells (nfl [(rootR (ds.take (bel ds.length)), rootR (ds.drop (bel ds.length)))]).toArray 123 (0, 0)), (b3, Obj.cells (arr8 (List.replicate 32 0)) 33 (0, 0))] ++ (Row.b 123 r3))) 5 #[true, true, true, true, false, false, true, false, false, false] ?_ (fun hmid6 => ?_)
      · -- state [0, 1, 2, 3, 6]
        rintro ⟨r3, bq, rn⟩ hr3
        refine JA.branch [4, 7] (by kernel_rfl) rfl ?_
        refine JAll.cons rfl ?_ ?_
        · -- 4
          refine JO.new rfl rfl rfl (.none rfl) (En.bs1N rfl Tryd.underlying78 Tryd.sizeOf123 Tryd.zeroValue123) (fun b40 hb40 => ?_)
          obtain ⟨bq, rfl⟩ : ∃ b, b = b40 := ⟨_, rfl⟩
          exact JA.weak rfl (by kernel_rfl) (by exact Keeps.k) (by exact Sub.k) (hmid3 (r3, bq, ⟨0, 0, #[]⟩) (by exact hr3))
        refine JAll.cons rfl ?_ JAll.nil
        refine JO.val rfl rfl rfl (.none rfl) (Ev.loadA (l := (nodeD ((rootR (ds.take (bel ds.length)), rootR (ds.drop (bel ds.length)))).1 ((rootR (ds.take (bel ds.length)), rootR (ds.drop (bel ds.length)))).2).1.map u8) rfl Tryd.underlying33 rfl Tryd.sizeOf33 (Rds.ntop (p := (rootR (ds.take (bel ds.length)), rootR (ds.drop (bel ds.length)))) memK) (by rw [List.length_map]; exact (nodeD ((rootR (ds.take (bel ds.length)), rootR (ds.drop (bel ds.length)))).1 ((rootR (ds.take (bel ds.length)), rootR (ds.drop (bel ds.length)))).2).2)) ?_
        exact JA.weak rfl (by kernel_rfl) (by exact Keeps.k) (by exact Sub.k) (hmid4 (r3, 0, ⟨0, 0, #[]⟩) (by exact hr3))
      refine JA.mid (X := Option Row × Nat × Row) (fun ⟨r3, bq, rn⟩ => Row.ok 96 ((nodesR (ds.take (bel ds.length))).length + (nodesR (ds.drop (bel ds.length))).length) (nfl (nodesR (ds.take (bel ds.length))) ++ nfl (nodesR (ds.drop (bel ds.length)))) r3) (fun ⟨r3, bq, rn⟩ => [(43, .agg (arr8 (nodeD (rootR (ds.take (bel ds.length))) (rootR (ds.drop (bel ds.length)))).1)), (42, .pointer (some ⟨b9, 0 + 64, none⟩)), (38, Row.v ((nodesR (ds.take (bel ds.length))).length + (nodesR (ds.drop (bel ds.length))).length) r3), (3, .pointer (some ⟨b3, 0, none⟩)), (9, .pointer (some ⟨b9, 0, none⟩))]) (fun ⟨r3, bq, rn⟩ => ([(b9, Obj.cells (nfl [(rootR (ds.take (bel ds.length)), rootR (ds.drop (bel ds.length)))]).toArray 123 (0, 0)), (b3, Obj.cells (arr8 (List.replicate 32 0)) 33 (0, 0))] ++ (Row.b 123 r3))) 5 #[true, true, true, false, false, false, true, true, false, false] ?_ (fun hmid7 => ?_)
      · -- state [0, 1, 2, 6, 7]
        rintro ⟨r3, bq, rn⟩ hr3
        refine JA.one 3 ?_
        refine JO.val rfl rfl rfl (.none rfl) (Ev.loadB rfl memK Tryd.underlying123 rfl Tryd.sizeOf123 (nfl_size _)) ?_
        exact JA.weak rfl (by kernel_rfl) (by exact Keeps.k) (by exact Sub.k) (hmid4 (r3, 0, ⟨0, 0, #[]⟩) (by exact hr3))
      refine JA.mid (X := Option Row × Nat × Row) (fun ⟨r3, bq, rn⟩ => True) (fun ⟨r3, bq, rn⟩ => [(42, .pointer (some ⟨b9, 0 + 64, none⟩)), (40, .slice (some ⟨bq, 0, none⟩) 1 1), (39, .agg (nfl [(rootR (ds.take (bel ds.length)), rootR (ds.drop (bel ds.length)))]).toArray), (37, Row.v (nodesR (ds.drop (bel ds.length))).length r2), (36, Row.v (nodesR (ds.take (bel ds.length))).length r1), (3, .pointer (some ⟨b3, 0, none⟩)), (9, .pointer (some ⟨b9, 0, none⟩))]) (fun ⟨r3, bq, rn⟩ => ([(bq, Obj.cells (nfl [(rootR (ds.take (bel ds.length)), rootR (ds.drop (bel ds.length)))]).toArray 123 (0, 0)), (b9, Obj.cells (nfl [(rootR (ds.take (bel ds.length)), rootR (ds.drop (bel ds.length)))]).toArray 123 (0, 0)), (b3, Obj.cells (arr8 (List.replicate 32 0)) 33 (0, 0))] ++ (Row.b 123 r1 ++ Row.b 123 r2))) 5 #[true, true, false, true, true, false, true, false, false, false] ?_ (fun hmid8 => ?_)
      · -- state [0, 1, 3, 4, 6]
        rintro ⟨r3, bq, rn⟩ _
        refine JA.branch [2, 7] (by kernel_rfl) rfl ?_
        refine JAll.cons rfl ?_ ?_
        · -- 2
          refine JO.gen rfl rfl rfl (.none rfl) (Eg.appendR (r := r1) (r1 := r2) (n := (nodesR (ds.take (bel ds.length))).length) (m := (nodesR (ds.drop (bel ds.length))).length) (xs := nfl (nodesR (ds.take (bel ds.length)))) (news := nfl (nodesR (ds.drop (bel ds.length)))) (z := (.agg (fl [zeroD, zeroD, zeroD]).toArray)) (s := 96) (bytes := 96) rfl rfl rfl rfl Cut.k Tryd.underlying78 (by kernel_rfl) (by rw [show (Value.agg (fl [zeroD, zeroD, zeroD]).toArray).cells = (fl [zeroD, zeroD, zeroD]).toArray from rfl, List.size_toArray, fl_length]; rfl) (by decide) (by decide) hr1 hr2 (fun p hp => by simp [hp]) (nfl_one _) (by have := hpl; omega)) ?_
          rintro _ _ ⟨r3, rfl, rfl, hr3, _⟩
          exact JA.weak rfl (by kernel_rfl) (by exact Keeps.k) (by exact Sub.k) (hmid3 (r3, bq, ⟨0, 0, #[]⟩) (by exact hr3))
        refine JAll.cons rfl ?_ JAll.nil
        refine JO.val rfl rfl rfl (.none rfl) (Ev.loadA (l := (nodeD ((rootR (ds.take (bel ds.length)), rootR (ds.drop (bel ds.length)))).1 ((rootR (ds.take (bel ds.length)), rootR (ds.drop (bel ds.length)))).2).1.map u8) rfl Tryd.underlying33 rfl Tryd.sizeOf33 (Rds.ntop (p := (rootR (ds.take (bel ds.length)), rootR (ds.drop (bel ds.length)))) memK) (by rw [List.length_map]; exact (nodeD ((rootR (ds.take (bel ds.length)), rootR (ds.drop (bel ds.length)))).1 ((rootR (ds.take (bel ds.length)), rootR (ds.drop (bel ds.length)))).2).2)) ?_
        exact JA.weak rfl (by kernel_rfl) (by exact Keeps.k) (by exact Sub.k) (hmid5 (none, bq, ⟨0, 0, #[]⟩) (by trivial))
      refine JA.mid (X := Option Row × Nat × Row) (fun ⟨r3, bq, rn⟩ => True) (fun ⟨r3, bq, rn⟩ => [(43, .agg (arr8 (nodeD (rootR (ds.take (bel ds.length))) (rootR (ds.drop (bel ds.length)))).1)), (42, .pointer (some ⟨b9, 0 + 64, none⟩)), (39, .agg (nfl [(rootR (ds.take (bel ds.length)), rootR (ds.drop (bel ds.length)))]).toArray), (37, Row.v (nodesR (ds.drop (bel ds.length))).length r2), (36, Row.v (nodesR (ds.take (bel ds.length))).length r1), (3, .pointer (some ⟨b3, 0, none⟩)), (9, .pointer (some ⟨b9, 0, none⟩))]) (fun ⟨r3, bq, rn⟩ => ([(b9, Obj.cells (nfl [(rootR (ds.take (bel ds.length)), rootR (ds.drop (bel ds.length)))]).toArray 123 (0, 0)), (b3, Obj.cells (arr8 (List.replicate 32 0)) 33 (0, 0))] ++ (Row.b 123 r1 ++ Row.b 123 r2))) 5 #[true, true, false, true, false, false, true, true, false, false] ?_ (fun hmid9 => ?_)
      · -- state [0, 1, 3, 6, 7]
        rintro ⟨r3, bq, rn⟩ _
        refine JA.branch [2, 4] (by kernel_rfl) rfl ?_
        refine JAll.cons rfl ?_ ?_
        · -- 2
          refine JO.gen rfl rfl rfl (.none rfl) (Eg.appendR (r := r1) (r1 := r2) (n := (nodesR (ds.take (bel ds.length))).length) (m := (nodesR (ds.drop (bel ds.length))).length) (xs := nfl (nodesR (ds.take (bel ds.length)))) (news := nfl (nodesR (ds.drop (bel ds.length)))) (z := (.agg (fl [zeroD, zeroD, zeroD]).toArray)) (s := 96) (bytes := 96) rfl rfl rfl rfl Cut.k Tryd.underlying78 (by kernel_rfl) (by rw [show (Value.agg (fl [zeroD, zeroD, zeroD]).toArray).cells = (fl [zeroD, zeroD, zeroD]).toArray from rfl, List.size_toArray, fl_length]; rfl) (by decide) (by decide) hr1 hr2 (fun p hp => by simp [hp]) (nfl_one _) (by have := hpl; omega)) ?_
          rintro _ _ ⟨r3, rfl, rfl, hr3, _⟩
          exact JA.weak rfl (by kernel_rfl) (by exact Keeps.k) (by exact Sub.k) (hmid4 (r3, 0, ⟨0, 0, #[]⟩) (by exact hr3))
        refine JAll.cons rfl ?_ JAll.nil
        refine JO.new rfl rfl rfl (.none rfl) (En.bs1N rfl Tryd.underlying78 Tryd.sizeOf123 Tryd.zeroValue123) (fun b40 hb40 => ?_)
        obtain ⟨bq, rfl⟩ : ∃ b, b = b40 := ⟨_, rfl⟩
        exact JA.weak rfl (by kernel_rfl) (by exact Keeps.k) (by exact Sub.k) (hmid5 (none, bq, ⟨0, 0, #[]⟩) (by trivial))
      refine JA.mid (X := Option Row × Nat × Row) (fun ⟨r3, bq, rn⟩ => Row.ok 96 ((nodesR (ds.take (bel ds.length))).length + (nodesR (ds.drop (bel ds.length))).length) (nfl (nodesR (ds.take (bel ds.length))) ++ nfl (nodesR (ds.drop (bel ds.length)))) r3) (fun ⟨r3, bq, rn⟩ => [(42, .pointer (some ⟨b9, 0 + 64, none⟩)), (38, Row.v ((nodesR (ds.take (bel ds.length))).length + (nodesR (ds.drop (bel ds.length))).length) r3), (3, .pointer (some ⟨b3, 0, none⟩)), (9, .pointer (some ⟨b9, 0, none⟩))]) (fun ⟨r3, bq, rn⟩ => ([(b9, Obj.cells (nfl [(rootR (ds.take (bel ds.length)), rootR (ds.drop (bel ds.length)))]).toArray 123 (0, 0)), (b3, Obj.cells (arr8 (List.replicate 32 0)) 33 (0, 0))] ++ (Row.b 123 r3))) 6 #[true, true, true, false, false, false, true, false, false, false] ?_ (fun hmid10 => ?_)
      · -- state [0, 1, 2, 6]
        rintro ⟨r3, bq, rn⟩ hr3
        refine JA.branch [3, 7] (by kernel_rfl) rfl ?_
        refine JAll.cons rfl ?_ ?_
        · -- 3
          refine JO.val rfl rfl rfl (.none rfl) (Ev.loadB rfl memK Tryd.underlying123 rfl Tryd.sizeOf123 (nfl_size _)) ?_
          exact JA.weak rfl (by kernel_rfl) (by exact Keeps.k) (by exact Sub.k) (hmid6 (r3, 0, ⟨0, 0, #[]⟩) (by exact hr3))
        refine JAll.cons rfl ?_ JAll.nil
        refine JO.val rfl rfl rfl (.none rfl) (Ev.loadA (l := (nodeD ((rootR (ds.take (bel ds.length)), rootR (ds.drop (bel ds.length)))).1 ((rootR (ds.take (bel ds.length)), rootR (ds.drop (bel ds.length)))).2).1.map u8) rfl Tryd.underlying33 rfl Tryd.sizeOf33 (Rds.ntop (p := (rootR (ds.take (bel ds.length)), rootR (ds.drop (bel ds.length)))) memK) (by rw [List.length_map]; exact (nodeD ((rootR (ds.take (bel ds.length)), rootR (ds.drop (bel ds.length)))).1 ((rootR (ds.take (bel ds.length)), rootR (ds.drop (bel ds.length)))).2).2)) ?_
        exact JA.weak rfl (by kernel_rfl) (by exact Keeps.k) (by exact Sub.k) (hmid7 (r3, 0, ⟨0, 0, #[]⟩) (by exact hr3))
      refine JA.mid (X := Option Row × Nat × Row) (fun ⟨r3, bq, rn⟩ => True) (fun ⟨r3, bq, rn⟩ => [(42, .pointer (some ⟨b9, 0 + 64, none⟩)), (39, .agg (nfl [(rootR (ds.take (bel ds.length)), rootR (ds.drop (bel ds.length)))]).toArray), (37, Row.v (nodesR (ds.drop (bel ds.length))).length r2), (36, Row.v (nodesR (ds.take (bel ds.length))).length r1), (3, .pointer (some ⟨b3, 0, none⟩)), (9, .pointer (some ⟨b9, 0, none⟩))]) (fun ⟨r3, bq, rn⟩ => ([(b9, Obj.cells (nfl [(rootR (ds.take (bel ds.length)), rootR (ds.drop (bel ds.length)))]).toArray 123 (0, 0)), (b3, Obj.cells (arr8 (List.replicate 32 0)) 33 (0, 0))] ++ (Row.b 123 r1 ++ Row.b 123 r2))) 6 #[true, true, false, true, false, false, true, false, false, false] ?_ (fun hmid11 => ?_)
      · -- state [0, 1, 3, 6]
        rintro ⟨r3, bq, rn⟩ _
        refine JA.branch [2, 4, 7] (by kernel_rfl) rfl ?_
        refine JAll.cons rfl ?_ ?_
        · -- 2
          refine JO.gen rfl rfl rfl (.none rfl) (Eg.appendR (r := r1) (r1 := r2) (n := (nodesR (ds.take (bel ds.length))).length) (m := (nodesR (ds.drop (bel ds.length))).length) (xs := nfl (nodesR (ds.take (bel ds.length)))) (news := nfl (nodesR (ds.drop (bel ds.length)))) (z := (.agg (fl [zeroD, zeroD, zeroD]).toArray)) (s := 96) (bytes := 96) rfl rfl rfl rfl Cut.k Tryd.underlying78 (by kernel_rfl) (by rw [show (Value.agg (fl [zeroD, zeroD, zeroD]).toArray).cells = (fl [zeroD, zeroD, zeroD]).toArray from rfl, List.size_toArray, fl_length]; rfl) (by decide) (by decide) hr1 hr2 (fun p hp => by simp [hp]) (nfl_one _) (by have := hpl; omega)) ?_
          rintro _ _ ⟨r3, rfl, rfl, hr3, _⟩
          exact JA.weak rfl (by kernel_rfl) (by exact Keeps.k) (by exact Sub.k) (hmid6 (r3, 0, ⟨0, 0, #[]⟩) (by exact hr3))
        refine JAll.cons rfl ?_ ?_
        · -- 4
          refine JO.new rfl rfl rfl (.none rfl) (En.bs1N rfl Tryd.underlying78 Tryd.sizeOf123 Tryd.zeroValue123) (fun b40 hb40 => ?_)
          obtain ⟨bq, rfl⟩ : ∃ b, b = b40 := ⟨_, rfl⟩
          exact JA.weak rfl (by kernel_rfl) (by exact Keeps.k) (by exact Sub.k) (hmid8 (none, bq, ⟨0, 0, #[]⟩) (by trivial))
        refine JAll.cons rfl ?_ JAll.nil
        refine JO.val rfl rfl rfl (.none rfl) (Ev.loadA (l := (nodeD ((rootR (ds.take (bel ds.length)), rootR (ds.drop (bel ds.length)))).1 ((rootR (ds.take (bel ds.length)), rootR (ds.drop (bel ds.length)))).2).1.map u8) rfl Tryd.underlying33 rfl Tryd.sizeOf33 (Rds.ntop (p := (rootR (ds.take (bel ds.length)), rootR (ds.drop (bel ds.length)))) memK) (by rw [List.length_map]; exact (nodeD ((rootR (ds.take (bel ds.length)), rootR (ds.drop (bel ds.length)))).1 ((rootR (ds.take (bel ds.length)), rootR (ds.drop (bel ds.length)))).2).2)) ?_
        exact JA.weak rfl (by kernel_rfl) (by exact Keeps.k) (by exact Sub.k) (hmid9 (none, 0, ⟨0, 0, #[]⟩) (by trivial))
      refine JA.mid (X := Option Row × Nat × Row) (fun ⟨r3, bq, rn⟩ => True) (fun ⟨r3, bq, rn⟩ => [(43, .agg (arr8 (nodeD (rootR (ds.take (bel ds.length))) (rootR (ds.drop (bel ds.length)))).1)), (42, .pointer (some ⟨b9, 0 + 64, none⟩)), (37, Row.v (nodesR (ds.drop (bel ds.length))).length r2), (36, Row.v (nodesR (ds.take (bel ds.length))).length r1), (3, .pointer (some ⟨b3, 0, none⟩)), (9, .pointer (some ⟨b9, 0, none⟩))]) (fun ⟨r3, bq, rn⟩ => ([(b9, Obj.cells (nfl [(rootR (ds.take (bel ds.length)), rootR (ds.drop (bel ds.length)))]).toArray 123 (0, 0)), (b3, Obj.cells (arr8 (List.replicate 32 0)) 33 (0, 0))] ++ (Row.b 123 r1 ++ Row.b 123 r2))) 6 #[true, true, false, false, false, false, true, true, false, false] ?_ (fun hmid12 => ?_)
      · -- state [0, 1, 6, 7]
        rintro ⟨r3, bq, rn⟩ _
        refine JA.branch [2, 3] (by kernel_rfl) rfl ?_
        refine JAll.cons rfl ?_ ?_
        · -- 2
          refine JO.gen rfl rfl rfl (.none rfl) (Eg.appendR (r := r1) (r1 := r2) (n := (nodesR (ds.take (bel ds.length))).length) (m := (nodesR (ds.drop (bel ds.length))).length) (xs := nfl (nodesR (ds.take (bel ds.length)))) (news := nfl (nodesR (ds.drop (bel ds.length)))) (z := (.agg (fl [zeroD, zeroD, zeroD]).toArray)) (s := 96) (bytes := 96) rfl rfl rfl rfl Cut.k Tryd.underlying78 (by kernel_rfl) (by rw [show (Value.agg (fl [zeroD, zeroD, zeroD]).toArray).cells = (fl [zeroD, zeroD, zeroD]).toArray from rfl, List.size_toArray, fl_length]; rfl) (by decide) (by decide) hr1 hr2 (fun p hp => by simp [hp]) (nfl_one _) (by have := hpl; omega)) ?_
          rintro _ _ ⟨r3, rfl, rfl, hr3, _⟩
          exact JA.weak rfl (by kernel_rfl) (by exact Keeps.k) (by exact Sub.k) (hmid7 (r3, 0, ⟨0, 0, #[]⟩) (by exact hr3))
        refine JAll.cons rfl ?_ JAll.nil
        refine JO.val rfl rfl rfl (.none rfl) (Ev.loadB rfl memK Tryd.underlying123 rfl Tryd.sizeOf123 (nfl_size _)) ?_
        exact JA.weak rfl (by kernel_rfl) (by exact Keeps.k) (by exact Sub.k) (hmid9 (none, 0, ⟨0, 0, #[]⟩) (by trivial))
      refine JA.tkc 0 rfl (.none rfl) (fun _ => (Ev.move rfl)) ?_
      refine JA.tkc 1 rfl (.none rfl) (fun _ => (Ev.move rfl)) ?_
      refine JA.tkc 6 rfl (.none rfl) (fun _ => (Ev.fld 64 rfl (fun _ _ => by kernel_rfl))) ?_
      refine JA.branch [2, 3, 7] (by kernel_rfl) rfl ?_
      refine JAll.cons rfl ?_ ?_
      · -- 2
        refine JO.gen rfl rfl rfl (.none rfl) (Eg.appendR (r := r1) (r1 := r2) (n := (nodesR (ds.take (bel ds.length))).length) (m := (nodesR (ds.drop (bel ds.length))).length) (xs := nfl (nodesR (ds.take (bel ds.length)))) (news := nfl (nodesR (ds.drop (bel ds.length)))) (z := (.agg (fl [zeroD, zeroD, zeroD]).toArray)) (s := 96) (bytes := 96) rfl rfl rfl rfl Cut.k Tryd.underlying78 (by kernel_rfl) (by rw [show (Value.agg (fl [zeroD, zeroD, zeroD]).toArray).cells = (fl [zeroD, zeroD, zeroD]).toArray from rfl, List.size_toArray, fl_length]; rfl) (by decide) (by decide) hr1 hr2 (fun p hp => by simp [hp]) (nfl_one _) (by have := hpl; omega)) ?_
        rintro _ _ ⟨r3, rfl, rfl, hr3, _⟩
        exact JA.weak rfl (by kernel_rfl) (by exact Keeps.k) (by exact Sub.k) (hmid10 (r3, 0, ⟨0, 0, #[]⟩) (by exact hr3))
      refine JAll.cons rfl ?_ ?_
      · -- 3
        refine JO.val rfl rfl rfl (.none rfl) (Ev.loadB rfl memK Tryd.underlying123 rfl Tryd.sizeOf123 (nfl_size _)) ?_
        exact JA.weak rfl (by kernel_rfl) (by exact Keeps.k) (by exact Sub.k) (hmid11 (none, 0, ⟨0, 0, #[]⟩) (by trivial))
      refine JAll.cons rfl ?_ JAll.nil
      refine JO.val rfl rfl rfl (.none rfl) (Ev.loadA (l := (nodeD ((rootR (ds.take (bel ds.length)), rootR (ds.drop (bel ds.length)))).1 ((rootR (ds.take (bel ds.length)), rootR (ds.drop (bel ds.length)))).2).1.map u8) rfl Tryd.underlying33 rfl Tryd.sizeOf33 (Rds.ntop (p := (rootR (ds.take (bel ds.length)), rootR (ds.drop (bel ds.length)))) memK) (by rw [List.length_map]; exact (nodeD ((rootR (ds.take (bel ds.length)), rootR (ds.drop (bel ds.length)))).1 ((rootR (ds.take (bel ds.length)), rootR (ds.drop (bel ds.length)))).2).2)) ?_
      exact JA.weak rfl (by kernel_rfl) (by exact Keeps.k) (by exact Sub.k) (hmid12 (none, 0, ⟨0, 0, #[]⟩) (by trivial))
    rintro ⟨rn, hrn⟩
    refine JQ.thenN ?_
    refine JC.ret ?_
    refine JQ.end2 (H' := (Row.b 123 (some rn))) (.inl rfl) rfl (.tmp rfl) (.agg rfl memK Tryd.underlying33 rfl Tryd.sizeOf33 szK) ?_ ?_
    · first | exact Sub.all | exact Sub.nil | exact Sub.of_cnt (fun a => by (try dsimp only); simp only [cntA]; omega)
    · exact ⟨some rn, by rw [nodesR_split h2, List.length_append, List.length_append, rootR_split h2]; rfl, rfl, by rw [nodesR_split h2, List.length_append, List.length_append, nfl_append, nfl_append]; exact hrn⟩
theorem fnodes_any (oa : Option Addr) (cap : Nat) (ds : List Dig) (w : World) (hd : Dl w oa cap ds) (h1 : 1 ≤ ds.length) (hmx : ds.length ≤ 1024) (hk : KMem 1 w) (hf : FMem 0 w) :
    Calls Tryd.prog 42 #[.slice oa ds.length cap] w (Ret w (fun v H => ∃ r : Option Row, v = .tuple #[Row.v (nodesR ds).length r, .agg (arr8 (rootR ds).1)] ∧ H = Row.b 123 r ∧ Row.ok 96 (nodesR ds).length (nfl (nodesR ds)) r)) := by
  have key : ∀ (N : Nat) (oa : Option Addr) (cap : Nat) (ds : List Dig) (w : World) (hd : Dl w oa cap ds) (h1 : 1 ≤ ds.length) (hmx : ds.length ≤ 1024) (hk : KMem 1 w) (hf : FMem 0 w), ds.length = N → Calls Tryd.prog 42 #[.slice oa ds.length cap] w (Ret w (fun v H => ∃ r : Option Row, v = .tuple #[Row.v (nodesR ds).length r, .agg (arr8 (rootR ds).1)] ∧ H = Row.b 123 r ∧ Row.ok 96 (nodesR ds).length (nfl (nodesR ds)) r)) := by
    intro N
    induction N using Nat.strongRecOn with
    | _ N IH =>
      intro oa cap ds w hd h1 hmx hk hf hN
      exact fnodes_any_step N (fun oa cap ds w hd h1 hmx hk hf hlt => IH _ hlt oa cap ds w hd h1 hmx hk hf rfl) oa cap ds w hd h1 hmx hk hf hN
  exact key _ oa cap ds w hd h1 hmx hk hf rfl

theorem fclash_any (oa : Option Addr) (cap : Nat) (ps : List (Dig × Dig)) (w : World) (hd : Cs w oa ps.length cap (nfl ps)) (hl : ps.length ≤ 1000000) :
    Calls Tryd.prog 44 #[.slice oa ps.length cap] w (Ret w (fun v _ => ∃ c : Bool, v = .bool c ∧ (c = false → InjN ps))) := by
  refine enter (vs := [.slice oa ps.length cap]) Tryd.func44 rfl Tryd.ntmps44 rfl ?_
  refine JC.seq ?_
  refine JC.region ?_
  refine JL.asg ?_
  refine JL.nil ?_
  refine JQ.thenN ?_
  refine JC.seq ?_
  refine JC.seq ?_
  refine JC.region ?_
  refine JL.asg ?_
  refine JL.nil ?_
  refine JQ.thenN ?_
  refine JC.block ?_
  refine JC.loop (X := Nat)
    (fun i => [(0, .slice oa ps.length cap), (3, .int .i64 (i : Int))])
    (fun i => [])
    (fun i => i ≤ ps.length ∧ ∀ a b, a < i → b < a → ∀ x y, ps[a]? = some x → ps[b]? = some y → nodeD x.1 x.2 = nodeD y.1 y.2 → x = y)
    (fun i => ps.length - i) 0 ?_ ?_ ?_ ?_
  · exact Keeps.k
  · exact Sub.nil
  · exact ⟨Nat.zero_le _, fun a b ha => by omega⟩
  rintro i ⟨hi, hpw⟩
  refine JC.seq ?_
  refine JC.seq ?_
  refine JC.region ?_
  refine JL.mv ?_
  refine JL.mv ?_
  refine JL.val rfl rfl rfl (.none rfl) (Ev.lenS rfl Tryd.underlying78) ?_
  refine JL.val rfl rfl rfl (.none rfl) (Ev.bin rfl rfl lss_int) ?_
  refine JL.nil ?_
  refine JQ.thenN ?_
  refine JC.cond rfl (fun hc1 => ?_) (fun hc1 => ?_)
  · -- t8 True
    replace hc1 := of_decide_eq_true hc1
    refine JC.skip ?_
    refine JQ.thenN ?_
    refine JC.seq ?_
    refine JC.block ?_
    refine JC.seq ?_
    refine JC.region ?_
    refine JL.asg ?_
    refine JL.nil ?_
    refine JQ.thenN ?_
    refine JC.block ?_
    refine JC.loop (X := Nat)
      (fun k => [(0, .slice oa ps.length cap), (3, .int .i64 (i : Int)), (4, .int .i64 (k : Int))])
      (fun k => [])
      (fun k => k ≤ i ∧ ∀ b, b < k → ∀ x y, ps[i]? = some x → ps[b]? = some y → nodeD x.1 x.2 = nodeD y.1 y.2 → x = y)
      (fun k => i - k) 0 ?_ ?_ ?_ ?_
    · exact Keeps.k
    · exact Sub.nil
    · exact ⟨Nat.zero_le _, fun b hb => by omega⟩
    rintro k ⟨hk2, hin⟩
    refine JC.seq ?_
    refine JC.seq ?_
    refine JC.region ?_
    refine JL.mv ?_
    refine JL.mv ?_
    refine JL.val rfl rfl rfl (.none rfl) (Ev.bin rfl rfl lss_int) ?_
    refine JL.nil ?_
    refine JQ.thenN ?_
    refine JC.cond rfl (fun hc2 => ?_) (fun hc2 => ?_)
    · -- t13 True
      replace hc2 := of_decide_eq_true hc2
      obtain ⟨a, rfl⟩ := hd.get_some (by omega)
      obtain ⟨x, hx⟩ := get_some (l := ps) (k := i) (by omega)
      obtain ⟨y, hy⟩ := get_some (l := ps) (k := k) (by omega)
      refine JC.skip ?_
      refine JQ.thenN ?_
      refine JC.seq ?_
      refine JC.block ?_
      refine JC.seq ?_
      refine JC.regionQ (by kernel_rfl) (by kernel_rfl) ?_
      refine JW.val rfl rfl (.none rfl) (Ev.move rfl) ?_
      refine JW.val rfl rfl (.none rfl) (Ev.move rfl) ?_
      refine JW.val rfl rfl (.none rfl) (Ev.idxS rfl rfl Tryd.underlying78 Tryd.sizeOf123 (k := i) rfl (by omega)) ?_
      refine JW.val rfl rfl (.none rfl) (Ev.fldA 64 rfl (fun _ _ => by kernel_rfl)) ?_
      refine JW.val rfl rfl (.none rfl) (Ev.loadA (l := (nodeD x.1 x.2).1.map u8) rfl Tryd.underlying33 rfl Tryd.sizeOf33 (Rds.old ((hd.mem _ rfl).ntop hx)) (by rw [List.length_map]; exact (nodeD x.1 x.2).2)) ?_
      refine JW.val rfl rfl (.none rfl) (Ev.move rfl) ?_
      refine JW.val rfl rfl (.none rfl) (Ev.move rfl) ?_
      refine JW.val rfl rfl (.none rfl) (Ev.idxS rfl rfl Tryd.underlying78 Tryd.sizeOf123 (k := k) rfl (by omega)) ?_
      refine JW.val rfl rfl (.none rfl) (Ev.fldA 64 rfl (fun _ _ => by kernel_rfl)) ?_
      refine JW.val rfl rfl (.none rfl) (Ev.loadA (l := (nodeD y.1 y.2).1.map u8) rfl Tryd.underlying33 rfl Tryd.sizeOf33 (Rds.old ((hd.mem _ rfl).ntop hy)) (by rw [List.length_map]; exact (nodeD y.1 y.2).2)) ?_
      refine JW.val rfl rfl (.none rfl) (Ev.bin rfl rfl (eql_arr8 (n := 32) Tryd.underlying33 Tryd.underlying5 (by kernel_rfl) (by kernel_rfl) (by first | rfl | exact dig_len _ | assumption | exact sha_length _ | exact shaO_length _) (by first | rfl | exact dig_len _ | assumption | exact sha_length _ | exact shaO_length _))) ?_
      refine JW.val rfl rfl (.none rfl) (Ev.move rfl) ?_
      refine JW.split (d := 27) rfl (fun hgT => ?_) (fun hgT => ?_)
      · -- guard 27 true
        refine JW.val rfl rfl (.yes rfl rfl rfl) (Ev.move rfl) ?_
        refine JW.val rfl rfl (.yes rfl rfl rfl) (Ev.move rfl) ?_
        refine JW.val rfl rfl (.yes rfl rfl rfl) (Ev.idxS rfl rfl Tryd.underlying78 Tryd.sizeOf123 (k := i) rfl (by omega)) ?_
        refine JW.val rfl rfl (.yes rfl rfl rfl) (Ev.loadA (l := nfl [x]) rfl Tryd.underlying123 rfl Tryd.sizeOf123 (Rds.old ((hd.mem _ rfl).node hx)) (by rw [nfl_length]; rfl)) ?_
        refine JW.val rfl rfl (.yes rfl rfl rfl) (Ev.move rfl) ?_
        refine JW.val rfl rfl (.yes rfl rfl rfl) (Ev.move rfl) ?_
        refine JW.val rfl rfl (.yes rfl rfl rfl) (Ev.idxS rfl rfl Tryd.underlying78 Tryd.sizeOf123 (k := k) rfl (by omega)) ?_
        refine JW.val rfl rfl (.yes rfl rfl rfl) (Ev.loadA (l := nfl [y]) rfl Tryd.underlying123 rfl Tryd.sizeOf123 (Rds.old ((hd.mem _ rfl).node hy)) (by rw [nfl_length]; rfl)) ?_
        refine JW.val rfl rfl (.yes rfl rfl rfl) (Ev.bin rfl rfl (neq_node Tryd.underlying123 ⟨rfl, rfl, by decide⟩ ⟨rfl, rfl, by decide⟩ ⟨rfl, rfl, by decide⟩ Tryd.underlying33 Tryd.underlying5 (by kernel_rfl) Tryd.sizeOf33 (by kernel_rfl) (by kernel_rfl) x y)) ?_
        refine JW.val rfl rfl (.none rfl) (Ev.pickT rfl rfl) ?_
        refine JW.nilQ ?_
        refine JQ.thenN ?_
        refine JC.cond rfl (fun hq => ?_) (fun hq => ?_)
        · -- t37 True
          refine JC.seq ?_
          refine JC.region ?_
          refine JL.asg ?_
          refine JL.nil ?_
          refine JQ.thenN ?_
          refine JC.ret ?_
          refine JQ.blockR ?_
          refine JQ.thenR ?_
          refine JQ.thenR ?_
          refine JQ.blockR ?_
          refine JQ.blockR ?_
          refine JQ.thenR ?_
          refine JQ.thenR ?_
          refine JQ.blockR ?_
          refine JQ.thenR ?_
          refine JQ.end1 (H' := []) (.inl rfl) rfl (.tmp rfl) ?_ ?_
          · exact Sub.k
          · first | exact ⟨true, rfl, fun h => by cases h⟩ | exact ⟨false, rfl, fun _ => pw_end hpw⟩
        · -- t37 False
          have hxy : nodeD x.1 x.2 = nodeD y.1 y.2 → x = y := fun _ => by simpa using hq
          refine JC.skip ?_
          refine JQ.blockN ?_
          refine JQ.thenN ?_
          refine JC.region ?_
          refine JL.mv ?_
          refine JL.val rfl rfl rfl (.none rfl) (Ev.bin rfl rfl (add_i64 (by omega))) ?_
          refine JL.asg ?_
          refine JL.nil ?_
          refine JQ.loopN (k + 1) ?_ ?_ ?_ ?_
          · exact Keeps.k
          · exact Sub.nil
          · exact ⟨by omega, in_next hin hx hy hxy⟩
          · show i - (k + 1) < i - k; omega
      · -- guard 27 false
        have hxy : nodeD x.1 x.2 = nodeD y.1 y.2 → x = y := fun h => absurd (congrArg Subtype.val h) (by simpa using hgT)
        refine JW.skip rfl rfl (.noT rfl rfl rfl) ?_
        refine JW.skip rfl rfl (.noT rfl rfl rfl) ?_
        refine JW.skip rfl rfl (.noT rfl rfl rfl) ?_
        refine JW.skip rfl rfl (.noT rfl rfl rfl) ?_
        refine JW.skip rfl rfl (.noT rfl rfl rfl) ?_
        refine JW.skip rfl rfl (.noT rfl rfl rfl) ?_
        refine JW.skip rfl rfl (.noT rfl rfl rfl) ?_
        refine JW.skip rfl rfl (.noT rfl rfl rfl) ?_
        refine JW.skip rfl rfl (.noT rfl rfl rfl) ?_
        refine JW.val rfl rfl (.none rfl) (Ev.pickF rfl rfl) ?_
        refine JW.nilQ ?_
        refine JQ.thenN ?_
        refine JC.condF rfl ?_
        refine JC.skip ?_
        refine JQ.blockN ?_
        refine JQ.thenN ?_
        refine JC.region ?_
        refine JL.mv ?_
        refine JL.val rfl rfl rfl (.none rfl) (Ev.bin rfl rfl (add_i64 (by omega))) ?_
        refine JL.asg ?_
        refine JL.nil ?_
        refine JQ.loopN (k + 1) ?_ ?_ ?_ ?_
        · exact Keeps.k
        · exact Sub.nil
        · exact ⟨by omega, in_next hin hx hy hxy⟩
        · show i - (k + 1) < i - k; omega
    · -- t13 False
      replace hc2 := of_decide_eq_false hc2
      obtain rfl : k = i := by omega
      obtain ⟨x, hx⟩ := get_some (l := ps) (k := k) (by omega)
      refine JC.exit ?_
      refine JQ.thenE ?_
      refine JQ.thenE ?_
      refine JQ.blockE ?_
      refine JQ.blockN ?_
      refine JQ.thenN ?_
      refine JC.region ?_
      refine JL.mv ?_
      refine JL.val rfl rfl rfl (.none rfl) (Ev.bin rfl rfl (add_i64 (by omega))) ?_
      refine JL.asg ?_
      refine JL.nil ?_
      refine JQ.loopN (k + 1) ?_ ?_ ?_ ?_
      · exact Keeps.k
      · exact Sub.nil
      · exact ⟨by omega, pw_next hpw hx hin⟩
      · show ps.length - (k + 1) < ps.length - k; omega
  · -- t8 False
    replace hc1 := of_decide_eq_false hc1
    obtain rfl : i = ps.length := by omega
    refine JC.exit ?_
    refine JQ.thenE ?_
    refine JQ.thenE ?_
    refine JQ.blockE ?_
    refine JQ.thenN ?_
    refine JC.seq ?_
    refine JC.region ?_
    refine JL.asg ?_
    refine JL.nil ?_
    refine JQ.thenN ?_
    refine JC.ret ?_
    refine JQ.end1 (H' := []) (.inl rfl) rfl (.tmp rfl) ?_ ?_
    · exact Sub.k
    · first | exact ⟨true, rfl, fun h => by cases h⟩ | exact ⟨false, rfl, fun _ => pw_end hpw⟩

theorem fleaves_any (oa : Option Addr) (cap : Nat) (xs : List Et) (hok : okB (xs.map Et.e)) (w : World) (hb : Bd w oa cap xs) (hk : KMem 1 w) (hf : FMem 0 w) :
    Calls Tryd.prog 40 #[.agg #[.slice oa xs.length cap]] w (Ret w (fun v H => ∃ r : Option Row, v = Row.v (leavesE (xs.map Et.e)).length r ∧ H = Row.b 33 r ∧ Row.ok 32 (leavesE (xs.map Et.e)).length (fl (leavesE (xs.map Et.e))) r)) := by
  refine enter (vs := [.agg #[.slice oa xs.length cap]]) Tryd.func40 rfl Tryd.ntmps40 rfl ?_
  refine JC.seq ?_
  refine JC.region ?_
  refine JL.new rfl rfl rfl (.none rfl) (En.boxA rfl) (fun b1 hb1 => ?_)
  refine JL.asg ?_
  refine JL.nil ?_
  refine JQ.thenN ?_
  refine JC.seq ?_
  refine JC.region ?_
  refine JL.asg ?_
  refine JL.nil ?_
  refine JQ.thenN ?_
  refine JC.seq ?_
  refine JC.seq ?_
  refine JC.region ?_
  refine JL.asg ?_
  refine JL.nil ?_
  refine JQ.thenN ?_
  refine JC.block ?_
  refine JC.loop (X := Nat × List Dig × Option Row)
    (fun ⟨i, out, r⟩ => [(1, .pointer (some ⟨b1, 0, none⟩)), (3, Row.v out.length r), (4, .int .i64 (i : Int))])
    (fun ⟨i, out, r⟩ => (b1, Obj.cells #[.slice oa xs.length cap] 24 (0, 0)) :: Row.b 33 r)
    (fun ⟨i, out, r⟩ => i ≤ xs.length ∧ out = (leavesE (xs.map Et.e)).take i ∧ out.length = i ∧ Row.ok 32 out.length (fl out) r)
    (fun ⟨i, out, r⟩ => xs.length - i) (0, [], none) ?_ ?_ ?_ ?_
  · exact Keeps.k
  · exact Sub.k
  · exact ⟨Nat.zero_le _, rfl, rfl, Row.ok0⟩
  rintro ⟨i, out, r⟩ ⟨hi, ho, hol, hr⟩
  refine JC.seq ?_
  refine JC.seq ?_
  refine JC.region ?_
  refine JL.mv ?_
  refine JL.val rfl rfl rfl (.none rfl) (Ev.fld 0 rfl (fun _ _ => by kernel_rfl)) ?_
  refine JL.val rfl rfl rfl (.none rfl) (Ev.load1 rfl Tryd.underlying22 rfl (Rd.own memK rfl)) ?_
  refine JL.val rfl rfl rfl (.none rfl) (Ev.lenS rfl Tryd.underlying22) ?_
  refine JL.val rfl rfl rfl (.none rfl) (Ev.bin rfl rfl lss_int) ?_
  refine JL.nil ?_
  refine JQ.thenN ?_
  refine JC.cond rfl (fun hc1 => ?_) (fun hc1 => ?_)
  · -- t11 True
    replace hc1 := of_decide_eq_true hc1
    obtain ⟨a, rfl⟩ := hb.get_some (by omega)
    obtain ⟨x, hx⟩ := get_some (l := xs) (k := i) (by omega)
    have hxo : okE x.e = true := okB_all hok x (List.mem_of_getElem? hx)
    have hlf := lfV_ok hxo
    have hlen := okB_len hok
    refine JC.skip ?_
    refine JQ.thenN ?_
    refine JC.seq ?_
    refine JC.block ?_
    refine JC.seq ?_
    refine JC.region ?_
    refine JL.val rfl rfl rfl (.none rfl) (Ev.fld 0 rfl (fun _ _ => by kernel_rfl)) ?_
    refine JL.val rfl rfl rfl (.none rfl) (Ev.load1 rfl Tryd.underlying22 rfl (Rd.own memK rfl)) ?_
    refine JL.mv ?_
    refine JL.val rfl rfl rfl (.none rfl) (Ev.idxS rfl rfl Tryd.underlying22 Tryd.sizeOf30 (k := i) rfl (by omega)) ?_
    refine JL.val rfl rfl rfl (.none rfl) (Ev.loadA (l := x.cl) rfl Tryd.underlying30 rfl Tryd.sizeOf30 (Rds.old (hb.at hx)) rfl) ?_
    refine JL.callV rfl (.none rfl) rfl Tryd.call18 (fun w1 hw1 => bLeaf_any x w1 ((hb.bs hx).old hw1) (hk.old hw1) (hf.old hw1)) ?_
    refine JL.mv ?_
    refine JL.val rfl rfl rfl (.none rfl) (Ev.ex0 rfl) ?_
    refine JL.val rfl rfl rfl (.none rfl) (Ev.ex1 rfl) ?_
    refine JL.new rfl rfl rfl (.none rfl) (En.allocZ (cs := arr8 (List.replicate 32 0)) Tryd.zeroValue33 rfl) (fun b5 hb5 => ?_)
    refine JL.sto rfl rfl (.none rfl) (Es.sA Tryd.sizeOf33) ?_
    refine JL.asg ?_
    refine JL.nil ?_
    refine JQ.thenN ?_
    refine JC.region ?_
    refine JL.reH (b := b5) (o' := Obj.cells (arr8 (leafE x.e).1) 33 (0, 0)) Upd.k (by rw [hlf]) ?_
    refine JL.mv ?_
    refine JL.val rfl rfl rfl (.none rfl) (Ev.lB Tryd.underlying33 Tryd.sizeOf33) ?_
    refine JL.new rfl rfl rfl (.none rfl) (En.bs1D (e := 33) rfl Tryd.underlying39 Tryd.sizeOf33 Tryd.zeroValue33) (fun b25 hb25 => ?_)
    refine JL.gen rfl rfl rfl (.none rfl) (Eg.append1 (r := r) (n := out.length) (xs := fl out) (news := fl [leafE x.e]) (z := (.agg (arr8 (List.replicate 32 0)))) (s := 32) (bytes := 32) rfl rfl rfl Cut.k Tryd.underlying39 (by kernel_rfl) rfl (by decide) (by decide) hr (Rds.all memK) (fl_length _) (by decide) (fl_one _) (by have := okB_len hok; omega)) ?_
    rintro _ _ ⟨rn, rfl, rfl, hrn⟩
    refine JL.asg ?_
    refine JL.nil ?_
    refine JQ.blockN ?_
    refine JQ.thenN ?_
    refine JC.region ?_
    refine JL.mv ?_
    refine JL.val rfl rfl rfl (.none rfl) (Ev.bin rfl rfl (add_i64 (by omega))) ?_
    refine JL.asg ?_
    refine JL.nil ?_
    refine JQ.loopN (i + 1, out ++ [leafE x.e], some rn) ?_ ?_ ?_ ?_
    · (dsimp only; rw [List.length_append, List.length_singleton]; exact Keeps.k)
    · exact Sub.of_cnt (fun a => by (try dsimp only); simp only [cntA]; omega)
    · exact ⟨by omega, by rw [ho]; exact leaves_take hx, by rw [List.length_append]; simp; omega, by rw [List.length_append, fl_append]; exact hrn⟩
    · show xs.length - (i + 1) < xs.length - i; omega
  · -- t11 False
    replace hc1 := of_decide_eq_false hc1
    obtain rfl : i = xs.length := by omega
    refine JC.exit ?_
    refine JQ.thenE ?_
    refine JQ.thenE ?_
    refine JQ.blockE ?_
    refine JQ.thenN ?_
    refine JC.seq ?_
    refine JC.region ?_
    refine JL.mv ?_
    refine JL.asg ?_
    refine JL.nil ?_
    refine JQ.thenN ?_
    refine JC.ret ?_
    refine JQ.end1 (H' := (Row.b 33 r)) (.inl rfl) rfl (.tmp rfl) ?_ ?_
    · exact Sub.of_cnt (fun a => by (try dsimp only); simp only [cntA]; omega)
    · rw [List.take_of_length_le (by rw [leavesE, List.length_map, List.length_map]; exact Nat.le_refl _)] at ho; subst ho; exact ⟨r, rfl, rfl, hr⟩

end Go.Proofs.YtopaednfjjjnbaaDoor
