/-
  Trees in the reference: roots, paths, lengths, following; lists compared and copied.
-/
import Derived.Test.YtopaednfjjjnbaaDoorMer2Hd
import Derived.Test.YtopaednfjjjnbaaDoorPackCHd
namespace Go.Proofs.YtopaednfjjjnbaaDoor
open Go Go.RowKit
set_option maxRecDepth 100000

theorem Dl.take {w : World} {oa : Option Addr} {cap : Nat} {ds : List Dig} (h : Dl w oa cap ds) {k : Nat} (hk : k ≤ ds.length) : Dl w oa cap (ds.take k) := by
  have hl : (ds.take k).length = k := by rw [List.length_take]; omega
  have hc := h.le
  refine ⟨by omega, h.top, h.empty, fun a ha => ?_⟩
  have := (h.mem a ha).cut 0 (k * 32)
  rwa [List.drop_zero, show a.add 0 = a from by simp [Addr.add], fl_take] at this
theorem Dl.drop {w : World} {oa : Option Addr} {cap : Nat} {ds : List Dig} (h : Dl w oa cap ds) {k : Nat} (hk : k ≤ ds.length) :
    ∃ ob, sub3 oa k ds.length cap 32 = .slice ob (ds.drop k).length (cap - k) ∧ ∀ w', Dl w' oa cap ds → Dl w' ob (cap - k) (ds.drop k) := by
  obtain ⟨ob, h1, h2⟩ := sub3_cut h hk (Nat.le_refl _) h.le (Nat.le_refl _)
  have e : (ds.drop k).take (ds.length - k) = ds.drop k := List.take_of_length_le (by rw [List.length_drop]; omega)
  rw [e] at h1 h2
  exact ⟨ob, h1, h2⟩
theorem rNodeG_any (a b : Dig) (w : World) :
    Calls Tryd.prog 114 #[.agg (arr8 a.1), .agg (arr8 b.1)] w (Ret w fun v _ => v = .agg (arr8 (nodeD a b).1)) := rNode_any a.1 b.1 a.2 b.2 w
theorem below_any (n : Nat) (h2 : 2 ≤ n) (hn : n ≤ 2000000) (w : World) :
    Calls Tryd.prog 113 #[.int .i64 (n : Int)] w (Ret w (fun v _ => v = .int .i64 ((bel n : Nat) : Int))) := by
  refine enter (vs := [.int .i64 (n : Int)]) Tryd.func113 rfl Tryd.ntmps113 rfl ?_
  refine JC.seq ?_
  refine JC.region ?_
  refine JL.asg ?_
  refine JL.nil ?_
  refine JQ.thenN ?_
  refine JC.seq ?_
  refine JC.region ?_
  refine JL.asg ?_
  refine JL.nil ?_
  refine JQ.thenN ?_
  refine JC.seq ?_
  refine JC.block ?_
  refine JC.loop (X := Nat × Nat)
    (fun ⟨j, p⟩ => [(0, .int .i64 (n : Int)), (3, .int .i64 (p : Int))])
    (fun ⟨j, p⟩ => [])
    (fun ⟨j, p⟩ => p = 2 ^ j ∧ p < n)
    (fun ⟨j, p⟩ => n - p) (0, 1) ?_ ?_ ?_ ?_
  · exact Keeps.k
  · exact Sub.k
  · exact ⟨rfl, by omega⟩
  rintro ⟨j, p⟩ ⟨hp, hpn⟩
  have hp1 : 1 ≤ p := by rw [hp]; exact Nat.one_le_two_pow
  refine JC.seq ?_
  refine JC.seq ?_
  refine JC.region ?_
  refine JL.mv ?_
  refine JL.val rfl rfl rfl (.none rfl) (Ev.bin rfl rfl (mul_i64 (by omega))) ?_
  refine JL.mv ?_
  refine JL.val rfl rfl rfl (.none rfl) (Ev.bin rfl rfl lss_int) ?_
  refine JL.nil ?_
  refine JQ.thenN ?_
  refine JC.cond rfl (fun hc1 => ?_) (fun hc1 => ?_)
  · -- t7 True
    replace hc1 := of_decide_eq_true hc1
    refine JC.skip ?_
    refine JQ.thenN ?_
    refine JC.block ?_
    refine JC.region ?_
    refine JL.mv ?_
    refine JL.val rfl rfl rfl (.none rfl) (Ev.bin rfl rfl (mul_i64 (by omega))) ?_
    refine JL.asg ?_
    refine JL.nil ?_
    refine JQ.blockN ?_
    refine JQ.re (d := 3) (v' := .int .i64 ((2 * p : Nat) : Int)) rfl (congrArg (Value.int .i64) (by omega)) ?_
    refine JQ.loopN (j + 1, 2 * p) ?_ ?_ ?_ ?_
    · exact Keeps.k
    · exact Sub.k
    · exact ⟨by rw [Nat.pow_succ, ← hp]; omega, by omega⟩
    · show n - 2 * p < n - p; omega
  · -- t7 False
    replace hc1 := of_decide_eq_false hc1
    refine JC.exit ?_
    refine JQ.thenE ?_
    refine JQ.thenE ?_
    refine JQ.blockE ?_
    refine JQ.thenN ?_
    refine JC.seq ?_
    refine JC.region ?_
    refine JL.mv ?_
    refine JL.asg ?_
    refine JL.nil ?_
    refine JQ.thenN ?_
    refine JC.ret ?_
    refine JQ.end1 (H' := []) (.inl rfl) rfl (.tmp rfl) ?_ ?_
    · exact Sub.k
    · exact congrArg (fun x : Nat => Value.int .i64 (x : Int)) (by rw [hp]; exact (bel_of (by omega) (by rw [Nat.pow_succ, ← hp]; omega)).symm)

theorem rOf_any_step (N : Nat) (ih : ∀ (oa : Option Addr) (cap : Nat) (ds : List Dig) (w : World) (_ : Dl w oa cap ds) (_ : ds.length ≤ 1100000), ds.length < N → Calls Tryd.prog 74 #[.slice oa ds.length cap] w (Ret w (fun v _ => v = .agg (arr8 (rootR ds).1)))) (oa : Option Addr) (cap : Nat) (ds : List Dig) (w : World) (hd : Dl w oa cap ds) (hmx : ds.length ≤ 1100000) (hN : ds.length = N) :
    Calls Tryd.prog 74 #[.slice oa ds.length cap] w (Ret w (fun v _ => v = .agg (arr8 (rootR ds).1))) := by
  refine enter (vs := [.slice oa ds.length cap]) Tryd.func74 rfl Tryd.ntmps74 rfl ?_
  refine JC.seq ?_
  refine JC.region ?_
  refine JL.new rfl rfl rfl (.none rfl) (En.allocZ (cs := arr8 (List.replicate 32 0)) Tryd.zeroValue33 rfl) (fun b2 hb2 => ?_)
  refine JL.nil ?_
  refine JQ.thenN ?_
  refine JC.seq ?_
  refine JC.seq ?_
  refine JC.region ?_
  refine JL.mv ?_
  refine JL.val rfl rfl rfl (.none rfl) (Ev.lenS rfl Tryd.underlying39) ?_
  refine JL.val rfl rfl rfl (.none rfl) (Ev.bin rfl rfl eql_int) ?_
  refine JL.nil ?_
  refine JQ.thenN ?_
  refine JC.cond rfl (fun hc1 => ?_) (fun hc1 => ?_)
  · -- t6 True
    replace hc1 := of_decide_eq_true hc1
    have hnil : ds = [] := List.eq_nil_of_length_eq_zero (by omega)
    refine JC.seq ?_
    refine JC.region ?_
    refine JL.callV rfl (.none rfl) rfl Tryd.call112 (fun w1 hw1 => of_any none 0 [] w1 bs_nil (Nat.zero_le _)) ?_
    refine JL.sto rfl rfl (.none rfl) (Es.sA Tryd.sizeOf33) ?_
    refine JL.nil ?_
    refine JQ.thenN ?_
    refine JC.ret ?_
    refine JQ.thenR ?_
    refine JQ.end1 (H' := []) (.inl rfl) rfl (.agg rfl memK Tryd.underlying33 rfl Tryd.sizeOf33 szK) ?_ ?_
    · exact Sub.k
    · subst hnil; rfl
  · -- t6 False
    replace hc1 := of_decide_eq_false hc1
    refine JC.skip ?_
    refine JQ.thenN ?_
    refine JC.seq ?_
    refine JC.seq ?_
    refine JC.region ?_
    refine JL.mv ?_
    refine JL.val rfl rfl rfl (.none rfl) (Ev.lenS rfl Tryd.underlying39) ?_
    refine JL.val rfl rfl rfl (.none rfl) (Ev.bin rfl rfl eql_int) ?_
    refine JL.nil ?_
    refine JQ.thenN ?_
    refine JC.cond rfl (fun hc2 => ?_) (fun hc2 => ?_)
    · -- t10 True
      replace hc2 := of_decide_eq_true hc2
      have h1 : ds.length = 1 := by omega
      obtain ⟨a, rfl⟩ := Cs.get_some hd (by omega)
      obtain ⟨d, hd0⟩ := get_some (l := ds) (k := 0) (by omega)
      refine JC.seq ?_
      refine JC.region ?_
      refine JL.mv ?_
      refine JL.val rfl rfl rfl (.none rfl) (Ev.idxS (k := 0) rfl rfl Tryd.underlying39 Tryd.sizeOf33 rfl (by omega)) ?_
      refine JL.val rfl rfl rfl (.none rfl) (Ev.loadD rfl Tryd.underlying33 rfl Tryd.sizeOf33 (Rds.old ((hd.mem a rfl).atD hd0))) ?_
      refine JL.sto rfl rfl (.none rfl) (Es.sA Tryd.sizeOf33) ?_
      refine JL.nil ?_
      refine JQ.thenN ?_
      refine JC.ret ?_
      refine JQ.thenR ?_
      refine JQ.end1 (H' := []) (.inl rfl) rfl (.agg rfl memK Tryd.underlying33 rfl Tryd.sizeOf33 szK) ?_ ?_
      · exact Sub.k
      · rw [rootR_len1 h1 hd0]
    · -- t10 False
      replace hc2 := of_decide_eq_false hc2
      have h2 : 2 ≤ ds.length := by omega
      have hbl := bel_lt h2
      have hbp := bel_pos ds.length
      obtain ⟨ob, eob, hob⟩ := Dl.drop hd (show bel ds.length ≤ ds.length by omega)
      have htl : (ds.take (bel ds.length)).length = bel ds.length := by rw [List.length_take]; omega
      have hdl : (ds.drop (bel ds.length)).length = ds.length - bel ds.length := List.length_drop
      refine JC.skip ?_
      refine JQ.thenN ?_
      refine JC.seq ?_
      refine JC.region ?_
      refine JL.mv ?_
      refine JL.val rfl rfl rfl (.none rfl) (Ev.lenS rfl Tryd.underlying39) ?_
      refine JL.callV rfl (.none rfl) rfl Tryd.call113 (fun w1 hw1 => below_any ds.length (by omega) (by omega) w1) ?_
      refine JL.asg ?_
      refine JL.nil ?_
      refine JQ.thenN ?_
      refine JC.seq ?_
      refine JC.regionT 9 (by kernel_rfl) (by kernel_rfl) (List.take_append_drop 9 _).symm rfl ?_
      refine JW.val rfl rfl (.none rfl) (Ev.move rfl) ?_
      refine JW.val rfl rfl (.none rfl) (Ev.move rfl) ?_
      refine JW.val rfl rfl (.none rfl) (Ev.cast (v' := .slice oa (ds.take (bel ds.length)).length cap) (by rw [sub3_0, htl]) (Ev.sliceHi rfl rfl Tryd.underlying39 Tryd.sizeOf33 (h := bel ds.length) rfl (by have := hd.le; omega))) ?_
      refine JW.call rfl (.none rfl) rfl Tryd.call74 (fun w1 hw1 => ih oa cap (ds.take (bel ds.length)) w1 (Dl.take (hd.old hw1) (by omega)) (by omega) (by omega)) ?_
      refine JW.val rfl rfl (.none rfl) (Ev.move rfl) ?_
      refine JW.val rfl rfl (.none rfl) (Ev.move rfl) ?_
      refine JW.val rfl rfl (.none rfl) (Ev.cast (v' := .slice ob (ds.drop (bel ds.length)).length (cap - bel ds.length)) (eob) (Ev.sliceLo rfl rfl Tryd.underlying39 Tryd.sizeOf33 (l := bel ds.length) rfl (by omega))) ?_
      refine JW.call rfl (.none rfl) rfl Tryd.call74 (fun w1 hw1 => ih ob (cap - bel ds.length) (ds.drop (bel ds.length)) w1 (hob w1 (hd.old hw1)) (by omega) (by omega)) ?_
      refine JW.call rfl (.none rfl) rfl Tryd.call114 (fun w1 hw1 => rNodeG_any _ _ w1) ?_
      refine JW.tail ?_
      refine JL.sto rfl rfl (.none rfl) (Es.sA Tryd.sizeOf33) ?_
      refine JL.nil ?_
      refine JQ.thenN ?_
      refine JC.ret ?_
      refine JQ.end1 (H' := []) (.inl rfl) rfl (.agg rfl memK Tryd.underlying33 rfl Tryd.sizeOf33 szK) ?_ ?_
      · exact Sub.k
      · rw [rootR_split h2]
theorem rOf_any (oa : Option Addr) (cap : Nat) (ds : List Dig) (w : World) (hd : Dl w oa cap ds) (hmx : ds.length ≤ 1100000) :
    Calls Tryd.prog 74 #[.slice oa ds.length cap] w (Ret w (fun v _ => v = .agg (arr8 (rootR ds).1))) := by
  have key : ∀ (N : Nat) (oa : Option Addr) (cap : Nat) (ds : List Dig) (w : World) (hd : Dl w oa cap ds) (hmx : ds.length ≤ 1100000), ds.length = N → Calls Tryd.prog 74 #[.slice oa ds.length cap] w (Ret w (fun v _ => v = .agg (arr8 (rootR ds).1))) := by
    intro N
    induction N using Nat.strongRecOn with
    | _ N IH =>
      intro oa cap ds w hd hmx hN
      exact rOf_any_step N (fun oa cap ds w hd hmx hlt => IH _ hlt oa cap ds w hd hmx rfl) oa cap ds w hd hmx hN
  exact key _ oa cap ds w hd hmx rfl

end Go.Proofs.YtopaednfjjjnbaaDoor
