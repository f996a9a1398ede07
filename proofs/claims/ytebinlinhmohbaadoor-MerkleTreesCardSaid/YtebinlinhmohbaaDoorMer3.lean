/-
  Trees in the reference: roots, paths, lengths, following; lists compared and copied.
-/
import Derived.Test.YtebinlinhmohbaaDoorMer2
import Derived.Test.YtebinlinhmohbaaDoorDig5
namespace Go.Proofs.YtebinlinhmohbaaDoor
open Go Go.RowKit
set_option maxRecDepth 100000

theorem Dl.take {w : World} {oa : Option Addr} {cap : Nat} {ds : List Dig} (h : Dl w oa cap ds) {k : Nat} (hk : k ≤ ds.length) : Dl w oa cap (ds.take k) := by
  have hl : (ds.take k).length = k := by rw [List.length_take]; omega
  have hc := h.le
  refine ⟨by omega, h.top, h.empty, fun a ha => ?_⟩
  have := (h.mem a ha).cut 0 (k * 32)
  rwa [List.drop_zero, show a.add 0 = a from by simp [Addr.add], fl_take] at this
theorem Dl.drop {w : World} {oa : Option Addr} {cap : Nat} {ds : List Dig} (h : Dl w oa cap ds) {k : Nat} (hk : k ≤ ds.length) :
    ∃ ob, sub3 oa k ds.length cap 32 = .slice ob (ds.drop k).length (cap - k) ∧ ∀ w', Dl w' oa cap ds → Dl w' ob (cap - k) (ds.drop k) := by
  obtain ⟨ob, h1, h2⟩ := sub3_cut h hk (Nat.le_refl _) h.le (Nat.le_refl _)
  have e : (ds.drop k).take (ds.length - k) = ds.drop k := List.take_of_length_le (by rw [List.length_drop]; omega)
  rw [e] at h1 h2
  exact ⟨ob, h1, h2⟩
theorem rNodeG_any (a b : Dig) (w : World) :
    Calls Tryd.prog 42 #[.agg (arr8 a.1), .agg (arr8 b.1)] w (Ret w fun v _ => v = .agg (arr8 (nodeD a b).1)) := rNode_any a.1 b.1 a.2 b.2 w
theorem neq_arr8 {P : Program} {T e : TypeId} {n : Nat} (hT : P.underlying T = some (.array n e)) (he : P.underlying e = some (.int .u8)) (hc : P.cellsOf e = 1) (hg : P.eqGuardType P.depth T = false) {l m : List UInt8} (hl : l.length = n) (hm : m.length = n) :
    Bin P .neq T (.agg (arr8 l)) (.agg (arr8 m)) (.bool (!decide (l = m))) := fun x y w => by
  have h1 := eql_arr8 hT he hc hg hl hm x y w
  have e1 : (eqGuard .neq T x y (.agg (arr8 l)) (.agg (arr8 m))).run P w = .ok () w := run_eqGuard_agg (P := P) w .neq T x y _ _ hg
  have e2 : (eqGuard .eql T x y (.agg (arr8 l)) (.agg (arr8 m))).run P w = .ok () w := run_eqGuard_agg (P := P) w .eql T x y _ _ hg
  simp only [Sem.run_bind, e2, Result.andThen_ok] at h1
  simp only [Sem.run_bind, e1, Result.andThen_ok]
  rw [run_neq_struct]
  rw [run_eql_struct] at h1
  generalize (Op.equalIn 10000 T (.agg (arr8 l)) (.agg (arr8 m))).run P w = r at *
  cases r with
  | ok b w' =>
    simp only [Result.andThen_ok, Result.ok.injEq, Value.bool.injEq] at h1
    obtain ⟨rfl, rfl⟩ := h1
    rfl
  | halt x w' => simp [Result.andThen] at h1

theorem below_any (n : Nat) (h2 : 2 ≤ n) (hn : n ≤ 2000000) (w : World) :
    Calls Tryd.prog 41 #[.int .i64 (n : Int)] w (Ret w (fun v _ => v = .int .i64 ((bel n : Nat) : Int))) := by
  refine enter (vs := [.int .i64 (n : Int)]) Tryd.func41 rfl Tryd.ntmps41 rfl ?_
  refine JC.seq ?_
  refine JC.region ?_
  refine JL.asg ?_
  refine JL.nil ?_
  refine JQ.thenN ?_
  refine JC.seq ?_
  refine JC.region ?_
  refine JL.asg ?_
  refine JL.nil ?_
  refine JQ.thenN ?_
  refine JC.seq ?_
  refine JC.block ?_
  refine JC.loop (X := Nat × Nat)
    (fun ⟨j, p⟩ => [(0, .int .i64 (n : Int)), (3, .int .i64 (p : Int))])
    (fun ⟨j, p⟩ => [])
    (fun ⟨j, p⟩ => p = 2 ^ j ∧ p < n)
    (fun ⟨j, p⟩ => n - p) (0, 1) ?_ ?_ ?_ ?_
  · exact Keeps.k
  · exact Sub.k
  · exact ⟨rfl, by omega⟩
  rintro ⟨j, p⟩ ⟨hp, hpn⟩
  have hp1 : 1 ≤ p := by rw [hp]; exact Nat.one_le_two_pow
  refine JC.seq ?_
  refine JC.seq ?_
  refine JC.region ?_
  refine JL.mv ?_
  refine JL.val rfl rfl rfl (.none rfl) (Ev.bin rfl rfl (mul_i64 (by omega))) ?_
  refine JL.mv ?_
  refine JL.val rfl rfl rfl (.none rfl) (Ev.bin rfl rfl lss_int) ?_
  refine JL.nil ?_
  refine JQ.thenN ?_
  refine JC.cond rfl (fun hc1 => ?_) (fun hc1 => ?_)
  · -- t7 True
    replace hc1 := of_decide_eq_true hc1
    refine JC.skip ?_
    refine JQ.thenN ?_
    refine JC.block ?_
    refine JC.region ?_
    refine JL.mv ?_
    refine JL.val rfl rfl rfl (.none rfl) (Ev.bin rfl rfl (mul_i64 (by omega))) ?_
    refine JL.asg ?_
    refine JL.nil ?_
    refine JQ.blockN ?_
    refine JQ.re (d := 3) (v' := .int .i64 ((2 * p : Nat) : Int)) rfl (congrArg (Value.int .i64) (by omega)) ?_
    refine JQ.loopN (j + 1, 2 * p) ?_ ?_ ?_ ?_
    · exact Keeps.k
    · exact Sub.k
    · exact ⟨by rw [Nat.pow_succ, ← hp]; omega, by omega⟩
    · show n - 2 * p < n - p; omega
  · -- t7 False
    replace hc1 := of_decide_eq_false hc1
    refine JC.exit ?_
    refine JQ.thenE ?_
    refine JQ.thenE ?_
    refine JQ.blockE ?_
    refine JQ.thenN ?_
    refine JC.seq ?_
    refine JC.region ?_
    refine JL.mv ?_
    refine JL.asg ?_
    refine JL.nil ?_
    refine JQ.thenN ?_
    refine JC.ret ?_
    refine JQ.end1 (H' := []) (.inl rfl) rfl (.tmp rfl) ?_ ?_
    · exact Sub.k
    · exact congrArg (fun x : Nat => Value.int .i64 (x : Int)) (by rw [hp]; exact (bel_of (by omega) (by rw [Nat.pow_succ, ← hp]; omega)).symm)

theorem rOf_any_step (N : Nat) (ih : ∀ (oa : Option Addr) (cap : Nat) (ds : List Dig) (w : World) (_ : Dl w oa cap ds) (_ : ds.length ≤ 1100000), ds.length < N → Calls Tryd.prog 35 #[.slice oa ds.length cap] w (Ret w (fun v _ => v = .agg (arr8 (rootR ds).1)))) (oa : Option Addr) (cap : Nat) (ds : List Dig) (w : World) (hd : Dl w oa cap ds) (hmx : ds.length ≤ 1100000) (hN : ds.length = N) :
    Calls Tryd.prog 35 #[.slice oa ds.length cap] w (Ret w (fun v _ => v = .agg (arr8 (rootR ds).1))) := by
  refine enter (vs := [.slice oa ds.length cap]) Tryd.func35 rfl Tryd.ntmps35 rfl ?_
  refine JC.seq ?_
  refine JC.region ?_
  refine JL.new rfl rfl rfl (.none rfl) (En.allocZ (cs := arr8 (List.replicate 32 0)) Tryd.zeroValue22 rfl) (fun b2 hb2 => ?_)
  refine JL.nil ?_
  refine JQ.thenN ?_
  refine JC.seq ?_
  refine JC.seq ?_
  refine JC.region ?_
  refine JL.mv ?_
  refine JL.val rfl rfl rfl (.none rfl) (Ev.lenS rfl Tryd.underlying23) ?_
  refine JL.val rfl rfl rfl (.none rfl) (Ev.bin rfl rfl eql_int) ?_
  refine JL.nil ?_
  refine JQ.thenN ?_
  refine JC.cond rfl (fun hc1 => ?_) (fun hc1 => ?_)
  · -- t6 True
    replace hc1 := of_decide_eq_true hc1
    have hnil : ds = [] := List.eq_nil_of_length_eq_zero (by omega)
    refine JC.seq ?_
    refine JC.region ?_
    refine JL.callV rfl (.none rfl) rfl Tryd.call45 (fun w1 hw1 => of_any none 0 [] w1 bs_nil (Nat.zero_le _)) ?_
    refine JL.sto rfl rfl (.none rfl) (Es.sA Tryd.sizeOf22) ?_
    refine JL.nil ?_
    refine JQ.thenN ?_
    refine JC.ret ?_
    refine JQ.thenR ?_
    refine JQ.end1 (H' := []) (.inl rfl) rfl (.agg rfl memK Tryd.underlying22 rfl Tryd.sizeOf22 szK) ?_ ?_
    · exact Sub.k
    · subst hnil; rfl
  · -- t6 False
    replace hc1 := of_decide_eq_false hc1
    refine JC.skip ?_
    refine JQ.thenN ?_
    refine JC.seq ?_
    refine JC.seq ?_
    refine JC.region ?_
    refine JL.mv ?_
    refine JL.val rfl rfl rfl (.none rfl) (Ev.lenS rfl Tryd.underlying23) ?_
    refine JL.val rfl rfl rfl (.none rfl) (Ev.bin rfl rfl eql_int) ?_
    refine JL.nil ?_
    refine JQ.thenN ?_
    refine JC.cond rfl (fun hc2 => ?_) (fun hc2 => ?_)
    · -- t10 True
      replace hc2 := of_decide_eq_true hc2
      have h1 : ds.length = 1 := by omega
      obtain ⟨a, rfl⟩ := Cs.get_some hd (by omega)
      obtain ⟨d, hd0⟩ := get_some (l := ds) (k := 0) (by omega)
      refine JC.seq ?_
      refine JC.region ?_
      refine JL.mv ?_
      refine JL.val rfl rfl rfl (.none rfl) (Ev.idxS (k := 0) rfl rfl Tryd.underlying23 Tryd.sizeOf22 rfl (by omega)) ?_
      refine JL.val rfl rfl rfl (.none rfl) (Ev.loadD rfl Tryd.underlying22 rfl Tryd.sizeOf22 (Rds.old ((hd.mem a rfl).atD hd0))) ?_
      refine JL.sto rfl rfl (.none rfl) (Es.sA Tryd.sizeOf22) ?_
      refine JL.nil ?_
      refine JQ.thenN ?_
      refine JC.ret ?_
      refine JQ.thenR ?_
      refine JQ.end1 (H' := []) (.inl rfl) rfl (.agg rfl memK Tryd.underlying22 rfl Tryd.sizeOf22 szK) ?_ ?_
      · exact Sub.k
      · rw [rootR_len1 h1 hd0]
    · -- t10 False
      replace hc2 := of_decide_eq_false hc2
      have h2 : 2 ≤ ds.length := by omega
      have hbl := bel_lt h2
      have hbp := bel_pos ds.length
      obtain ⟨ob, eob, hob⟩ := Dl.drop hd (show bel ds.length ≤ ds.length by omega)
      have htl : (ds.take (bel ds.length)).length = bel ds.length := by rw [List.length_take]; omega
      have hdl : (ds.drop (bel ds.length)).length = ds.length - bel ds.length := List.length_drop
      refine JC.skip ?_
      refine JQ.thenN ?_
      refine JC.seq ?_
      refine JC.region ?_
      refine JL.mv ?_
      refine JL.val rfl rfl rfl (.none rfl) (Ev.lenS rfl Tryd.underlying23) ?_
      refine JL.callV rfl (.none rfl) rfl Tryd.call41 (fun w1 hw1 => below_any ds.length (by omega) (by omega) w1) ?_
      refine JL.asg ?_
      refine JL.nil ?_
      refine JQ.thenN ?_
      refine JC.seq ?_
      refine JC.regionT 9 (by kernel_rfl) (by kernel_rfl) (List.take_append_drop 9 _).symm rfl ?_
      refine JW.val rfl rfl (.none rfl) (Ev.move rfl) ?_
      refine JW.val rfl rfl (.none rfl) (Ev.move rfl) ?_
      refine JW.val rfl rfl (.none rfl) (Ev.cast (v' := .slice oa (ds.take (bel ds.length)).length cap) (by rw [sub3_0, htl]) (Ev.sliceHi rfl rfl Tryd.underlying23 Tryd.sizeOf22 (h := bel ds.length) rfl (by have := hd.le; omega))) ?_
      refine JW.call rfl (.none rfl) rfl Tryd.call35 (fun w1 hw1 => ih oa cap (ds.take (bel ds.length)) w1 (Dl.take (hd.old hw1) (by omega)) (by omega) (by omega)) ?_
      refine JW.val rfl rfl (.none rfl) (Ev.move rfl) ?_
      refine JW.val rfl rfl (.none rfl) (Ev.move rfl) ?_
      refine JW.val rfl rfl (.none rfl) (Ev.cast (v' := .slice ob (ds.drop (bel ds.length)).length (cap - bel ds.length)) (eob) (Ev.sliceLo rfl rfl Tryd.underlying23 Tryd.sizeOf22 (l := bel ds.length) rfl (by omega))) ?_
      refine JW.call rfl (.none rfl) rfl Tryd.call35 (fun w1 hw1 => ih ob (cap - bel ds.length) (ds.drop (bel ds.length)) w1 (hob w1 (hd.old hw1)) (by omega) (by omega)) ?_
      refine JW.call rfl (.none rfl) rfl Tryd.call42 (fun w1 hw1 => rNodeG_any _ _ w1) ?_
      refine JW.tail ?_
      refine JL.sto rfl rfl (.none rfl) (Es.sA Tryd.sizeOf22) ?_
      refine JL.nil ?_
      refine JQ.thenN ?_
      refine JC.ret ?_
      refine JQ.end1 (H' := []) (.inl rfl) rfl (.agg rfl memK Tryd.underlying22 rfl Tryd.sizeOf22 szK) ?_ ?_
      · exact Sub.k
      · rw [rootR_split h2]
theorem rOf_any (oa : Option Addr) (cap : Nat) (ds : List Dig) (w : World) (hd : Dl w oa cap ds) (hmx : ds.length ≤ 1100000) :
    Calls Tryd.prog 35 #[.slice oa ds.length cap] w (Ret w (fun v _ => v = .agg (arr8 (rootR ds).1))) := by
  have key : ∀ (N : Nat) (oa : Option Addr) (cap : Nat) (ds : List Dig) (w : World) (hd : Dl w oa cap ds) (hmx : ds.length ≤ 1100000), ds.length = N → Calls Tryd.prog 35 #[.slice oa ds.length cap] w (Ret w (fun v _ => v = .agg (arr8 (rootR ds).1))) := by
    intro N
    induction N using Nat.strongRecOn with
    | _ N IH =>
      intro oa cap ds w hd hmx hN
      exact rOf_any_step N (fun oa cap ds w hd hmx hlt => IH _ hlt oa cap ds w hd hmx rfl) oa cap ds w hd hmx hN
  exact key _ oa cap ds w hd hmx rfl

theorem rRoot_any (oa : Option Addr) (cap : Nat) (ds : List Dig) (w : World) (hd : Dl w oa cap ds) (hmx : ds.length ≤ 4398046510976) :
    Calls Tryd.prog 18 #[.slice oa ds.length cap] w (Ret w (fun v _ => v = .tuple #[.agg (arr8 (rootV ds).1), .int .i64 (rootE ds)])) := by
  refine enter (vs := [.slice oa ds.length cap]) Tryd.func18 rfl Tryd.ntmps18 rfl ?_
  refine JC.seq ?_
  refine JC.region ?_
  refine JL.new rfl rfl rfl (.none rfl) (En.allocZ (cs := arr8 (List.replicate 32 0)) Tryd.zeroValue22 rfl) (fun b2 hb2 => ?_)
  refine JL.asg ?_
  refine JL.nil ?_
  refine JQ.thenN ?_
  refine JC.seq ?_
  refine JC.seq ?_
  refine JC.region ?_
  refine JL.mv ?_
  refine JL.val rfl rfl rfl (.none rfl) (Ev.lenS rfl Tryd.underlying23) ?_
  refine JL.val rfl rfl rfl (.none rfl) (Ev.bin rfl rfl gtr_int) ?_
  refine JL.nil ?_
  refine JQ.thenN ?_
  refine JC.cond rfl (fun hc1 => ?_) (fun hc1 => ?_)
  · -- t6 True
    replace hc1 := of_decide_eq_true hc1
    have hgr : 1024 < ds.length := by omega
    refine JC.seq ?_
    refine JC.region ?_
    refine JL.val rfl rfl rfl (.none rfl) (Ev.bu0 Tryd.underlying22 Tryd.sizeOf5 Tryd.zeroValue22) ?_
    refine JL.sto rfl rfl (.none rfl) (Es.sA Tryd.sizeOf22) ?_
    refine JL.asg ?_
    refine JL.nil ?_
    refine JQ.thenN ?_
    refine JC.ret ?_
    refine JQ.thenR ?_
    refine JQ.end2 (H' := []) (.inl rfl) rfl (.agg rfl memK Tryd.underlying22 rfl Tryd.sizeOf22 szK) (.tmp rfl) ?_ ?_
    · exact Sub.k
    · rw [rootV_gr hgr, rootE_gr hgr]; rfl
  · -- t6 False
    replace hc1 := of_decide_eq_false hc1
    have hsm : ¬ 1024 < ds.length := by omega
    have hmx : ds.length ≤ 1100000 := by omega
    refine JC.skip ?_
    refine JQ.thenN ?_
    refine JC.seq ?_
    refine JC.region ?_
    refine JL.mv ?_
    refine JL.callV rfl (.none rfl) rfl Tryd.call35 (fun w1 hw1 => rOf_any oa cap ds w1 (hd.old hw1) hmx) ?_
    refine JL.sto rfl rfl (.none rfl) (Es.sA Tryd.sizeOf22) ?_
    refine JL.asg ?_
    refine JL.nil ?_
    refine JQ.thenN ?_
    refine JC.ret ?_
    refine JQ.end2 (H' := []) (.inl rfl) rfl (.agg rfl memK Tryd.underlying22 rfl Tryd.sizeOf22 szK) (.tmp rfl) ?_ ?_
    · exact Sub.k
    · rw [rootV_ok hsm, rootE_ok hsm]

theorem rTo_any_step (N : Nat) (ih : ∀ (oa : Option Addr) (cap : Nat) (ds : List Dig) (i : Nat) (w : World) (_ : Dl w oa cap ds) (_ : ds.length ≤ 1100000) (_ : i < ds.length), ds.length < N → Calls Tryd.prog 37 #[.slice oa ds.length cap, .int .i64 (i : Int)] w (Ret w (fun v H => ∃ r : Option Row, v = Row.v (pathR ds i).length r ∧ H = Row.b 22 r ∧ Row.ok 32 (pathR ds i).length (fl (pathR ds i)) r))) (oa : Option Addr) (cap : Nat) (ds : List Dig) (i : Nat) (w : World) (hd : Dl w oa cap ds) (hmx : ds.length ≤ 1100000) (hi : i < ds.length) (hN : ds.length = N) :
    Calls Tryd.prog 37 #[.slice oa ds.length cap, .int .i64 (i : Int)] w (Ret w (fun v H => ∃ r : Option Row, v = Row.v (pathR ds i).length r ∧ H = Row.b 22 r ∧ Row.ok 32 (pathR ds i).length (fl (pathR ds i)) r)) := by
  refine enter (vs := [.slice oa ds.length cap, .int .i64 (i : Int)]) Tryd.func37 rfl Tryd.ntmps37 rfl ?_
  refine JC.seq ?_
  refine JC.region ?_
  refine JL.asg ?_
  refine JL.nil ?_
  refine JQ.thenN ?_
  refine JC.seq ?_
  refine JC.seq ?_
  refine JC.region ?_
  refine JL.mv ?_
  refine JL.val rfl rfl rfl (.none rfl) (Ev.lenS rfl Tryd.underlying23) ?_
  refine JL.val rfl rfl rfl (.none rfl) (Ev.bin rfl rfl eql_int) ?_
  refine JL.nil ?_
  refine JQ.thenN ?_
  refine JC.cond rfl (fun hc1 => ?_) (fun hc1 => ?_)
  · -- t8 True
    replace hc1 := of_decide_eq_true hc1
    refine JC.seq ?_
    refine JC.region ?_
    refine JL.asg ?_
    refine JL.nil ?_
    refine JQ.thenN ?_
    refine JC.ret ?_
    refine JQ.thenR ?_
    refine JQ.end1 (H' := []) (.inl rfl) rfl (.tmp rfl) ?_ ?_
    · exact Sub.of_cnt (fun a => by (try dsimp only); simp only [cntA]; omega)
    · exact ⟨none, by rw [pathR_small (by omega)]; rfl, rfl, by rw [pathR_small (by omega)]; exact Row.ok0⟩
  · -- t8 False
    replace hc1 := of_decide_eq_false hc1
    have h2 : 2 ≤ ds.length := by omega
    have hbl := bel_lt h2
    have hbp := bel_pos ds.length
    obtain ⟨ob, eob, hob⟩ := Dl.drop hd (show bel ds.length ≤ ds.length by omega)
    have htl : (ds.take (bel ds.length)).length = bel ds.length := by rw [List.length_take]; omega
    have hdl : (ds.drop (bel ds.length)).length = ds.length - bel ds.length := List.length_drop
    refine JC.skip ?_
    refine JQ.thenN ?_
    refine JC.seq ?_
    refine JC.region ?_
    refine JL.mv ?_
    refine JL.val rfl rfl rfl (.none rfl) (Ev.lenS rfl Tryd.underlying23) ?_
    refine JL.callV rfl (.none rfl) rfl Tryd.call41 (fun w1 hw1 => below_any ds.length (by omega) (by omega) w1) ?_
    refine JL.asg ?_
    refine JL.nil ?_
    refine JQ.thenN ?_
    refine JC.seq ?_
    refine JC.seq ?_
    refine JC.region ?_
    refine JL.mv ?_
    refine JL.mv ?_
    refine JL.val rfl rfl rfl (.none rfl) (Ev.bin rfl rfl lss_int) ?_
    refine JL.nil ?_
    refine JQ.thenN ?_
    refine JC.cond rfl (fun hc2 => ?_) (fun hc2 => ?_)
    · -- t14 True
      replace hc2 := of_decide_eq_true hc2
      have hl : i < bel ds.length := by omega
      refine JC.seq ?_
      refine JC.regionA (by kernel_rfl) ?_
      refine JA.tk 0 rfl (.none rfl) (fun _ => (Ev.move rfl)) ?_
      refine JA.tk 1 rfl (.none rfl) (fun _ => (Ev.move rfl)) ?_
      refine JA.tk 2 rfl (.none rfl) (fun _ => (Ev.cast (v' := .slice oa (ds.take (bel ds.length)).length cap) (by rw [sub3_0, htl]) (Ev.sliceHi rfl rfl Tryd.underlying23 Tryd.sizeOf22 (h := bel ds.length) rfl (by have := hd.le; omega)))) ?_
      refine JA.tk 3 rfl (.none rfl) (fun _ => (Ev.move rfl)) ?_
      refine JA.tk 5 rfl (.none rfl) (fun _ => (Ev.move rfl)) ?_
      refine JA.tk 6 rfl (.none rfl) (fun _ => (Ev.move rfl)) ?_
      refine JA.tk 7 rfl (.none rfl) (fun _ => (Ev.cast (v' := .slice ob (ds.drop (bel ds.length)).length (cap - bel ds.length)) (eob) (Ev.sliceLo rfl rfl Tryd.underlying23 Tryd.sizeOf22 (l := bel ds.length) rfl (by omega)))) ?_
      refine JA.one 4 ?_
      refine JO.callN rfl (.none rfl) rfl Tryd.call37 (fun w1 hw1 => ih oa cap (ds.take (bel ds.length)) i w1 (Dl.take (hd.old hw1) (by omega)) (by omega) (by omega) (by omega)) ?_
      rintro _ _ ⟨r1, rfl, rfl, hr1⟩
      refine JA.one 8 ?_
      refine JO.callV rfl (.none rfl) rfl Tryd.call35 (fun w1 hw1 => rOf_any ob (cap - bel ds.length) (ds.drop (bel ds.length)) w1 (hob w1 (hd.old hw1)) (by omega)) ?_
      refine JA.one 9 ?_
      refine JO.new rfl rfl rfl (.none rfl) (En.bs1D (e := 22) rfl Tryd.underlying23 Tryd.sizeOf22 Tryd.zeroValue22) (fun b24 hb24 => ?_)
      refine JA.one 10 ?_
      refine JO.gen rfl rfl rfl (.none rfl) (Eg.append1 (z := (.agg (arr8 (List.replicate 32 0)))) (s := 32) (bytes := 32) rfl rfl rfl Cut.k Tryd.underlying23 (by kernel_rfl) rfl (by decide) (by decide) hr1 (Rds.all memK) (fl_length _) (by decide) (by intro u hu; first | exact fl_one _ u hu | exact u8s_one _ u hu | (simp at hu; subst hu; rfl)) (by have := path_le' (ds.take (bel ds.length)) i; omega)) ?_
      rintro _ _ ⟨rn, rfl, rfl, hrn⟩
      refine JA.tk 11 rfl (.none rfl) (fun _ => (Ev.assign rfl)) ?_
      refine JA.done (by kernel_rfl) ?_
      refine JQ.thenN ?_
      refine JC.ret ?_
      refine JQ.thenR ?_
      refine JQ.end1 (H' := (Row.b 22 (some rn))) (.inl rfl) rfl (.tmp rfl) ?_ ?_
      · exact Sub.of_cnt (fun a => by (try dsimp only); simp only [cntA]; omega)
      · first | exact ⟨some rn, by rw [pathR_left h2 hl, List.length_append]; rfl, rfl, by rw [pathR_left h2 hl, List.length_append, fl_append]; exact hrn⟩ | exact ⟨some rn, by rw [pathR_right h2 hl, List.length_append]; rfl, rfl, by rw [pathR_right h2 hl, List.length_append, fl_append]; exact hrn⟩
    · -- t14 False
      replace hc2 := of_decide_eq_false hc2
      have hl : ¬ i < bel ds.length := by omega
      refine JC.skip ?_
      refine JQ.thenN ?_
      refine JC.seq ?_
      refine JC.regionA (by kernel_rfl) ?_
      refine JA.tk 0 rfl (.none rfl) (fun _ => (Ev.move rfl)) ?_
      refine JA.tk 1 rfl (.none rfl) (fun _ => (Ev.move rfl)) ?_
      refine JA.tk 2 rfl (.none rfl) (fun _ => (Ev.cast (v' := .slice ob (ds.drop (bel ds.length)).length (cap - bel ds.length)) (eob) (Ev.sliceLo rfl rfl Tryd.underlying23 Tryd.sizeOf22 (l := bel ds.length) rfl (by omega)))) ?_
      refine JA.tk 3 rfl (.none rfl) (fun _ => (Ev.move rfl)) ?_
      refine JA.tk 4 rfl (.none rfl) (fun _ => (Ev.move rfl)) ?_
      refine JA.tk 5 rfl (.none rfl) (fun _ => (Ev.cast (v' := .int .i64 ((i - bel ds.length : Nat) : Int)) (congrArg (Value.int .i64) (by omega)) (Ev.bin rfl rfl (sub_i64 (by omega))))) ?_
      refine JA.tk 7 rfl (.none rfl) (fun _ => (Ev.move rfl)) ?_
      refine JA.tk 8 rfl (.none rfl) (fun _ => (Ev.move rfl)) ?_
      refine JA.tk 9 rfl (.none rfl) (fun _ => (Ev.cast (v' := .slice oa (ds.take (bel ds.length)).length cap) (by rw [sub3_0, htl]) (Ev.sliceHi rfl rfl Tryd.underlying23 Tryd.sizeOf22 (h := bel ds.length) rfl (by have := hd.le; omega)))) ?_
      refine JA.one 6 ?_
      refine JO.callN rfl (.none rfl) rfl Tryd.call37 (fun w1 hw1 => ih ob (cap - bel ds.length) (ds.drop (bel ds.length)) (i - bel ds.length) w1 (hob w1 (hd.old hw1)) (by omega) (by omega) (by omega)) ?_
      rintro _ _ ⟨r1, rfl, rfl, hr1⟩
      refine JA.one 10 ?_
      refine JO.callV rfl (.none rfl) rfl Tryd.call35 (fun w1 hw1 => rOf_any oa cap (ds.take (bel ds.length)) w1 (Dl.take (hd.old hw1) (by omega)) (by omega)) ?_
      refine JA.one 11 ?_
      refine JO.new rfl rfl rfl (.none rfl) (En.bs1D (e := 22) rfl Tryd.underlying23 Tryd.sizeOf22 Tryd.zeroValue22) (fun b37 hb37 => ?_)
      refine JA.one 12 ?_
      refine JO.gen rfl rfl rfl (.none rfl) (Eg.append1 (z := (.agg (arr8 (List.replicate 32 0)))) (s := 32) (bytes := 32) rfl rfl rfl Cut.k Tryd.underlying23 (by kernel_rfl) rfl (by decide) (by decide) hr1 (Rds.all memK) (fl_length _) (by decide) (by intro u hu; first | exact fl_one _ u hu | exact u8s_one _ u hu | (simp at hu; subst hu; rfl)) (by have := path_le' (ds.drop (bel ds.length)) (i - bel ds.length); omega)) ?_
      rintro _ _ ⟨rn, rfl, rfl, hrn⟩
      refine JA.tk 13 rfl (.none rfl) (fun _ => (Ev.assign rfl)) ?_
      refine JA.done (by kernel_rfl) ?_
      refine JQ.thenN ?_
      refine JC.ret ?_
      refine JQ.end1 (H' := (Row.b 22 (some rn))) (.inl rfl) rfl (.tmp rfl) ?_ ?_
      · exact Sub.of_cnt (fun a => by (try dsimp only); simp only [cntA]; omega)
      · first | exact ⟨some rn, by rw [pathR_left h2 hl, List.length_append]; rfl, rfl, by rw [pathR_left h2 hl, List.length_append, fl_append]; exact hrn⟩ | exact ⟨some rn, by rw [pathR_right h2 hl, List.length_append]; rfl, rfl, by rw [pathR_right h2 hl, List.length_append, fl_append]; exact hrn⟩
theorem rTo_any (oa : Option Addr) (cap : Nat) (ds : List Dig) (i : Nat) (w : World) (hd : Dl w oa cap ds) (hmx : ds.length ≤ 1100000) (hi : i < ds.length) :
    Calls Tryd.prog 37 #[.slice oa ds.length cap, .int .i64 (i : Int)] w (Ret w (fun v H => ∃ r : Option Row, v = Row.v (pathR ds i).length r ∧ H = Row.b 22 r ∧ Row.ok 32 (pathR ds i).length (fl (pathR ds i)) r)) := by
  have key : ∀ (N : Nat) (oa : Option Addr) (cap : Nat) (ds : List Dig) (i : Nat) (w : World) (hd : Dl w oa cap ds) (hmx : ds.length ≤ 1100000) (hi : i < ds.length), ds.length = N → Calls Tryd.prog 37 #[.slice oa ds.length cap, .int .i64 (i : Int)] w (Ret w (fun v H => ∃ r : Option Row, v = Row.v (pathR ds i).length r ∧ H = Row.b 22 r ∧ Row.ok 32 (pathR ds i).length (fl (pathR ds i)) r)) := by
    intro N
    induction N using Nat.strongRecOn with
    | _ N IH =>
      intro oa cap ds i w hd hmx hi hN
      exact rTo_any_step N (fun oa cap ds i w hd hmx hi hlt => IH _ hlt oa cap ds i w hd hmx hi rfl) oa cap ds i w hd hmx hi hN
  exact key _ oa cap ds i w hd hmx hi rfl

theorem rPath_any (oa : Option Addr) (cap : Nat) (ds : List Dig) (i : Int) (hib : -9223372036854775808 ≤ i ∧ i ≤ 9223372036854775807) (w : World) (hd : Dl w oa cap ds) (hmx : ds.length ≤ 4398046510976) :
    Calls Tryd.prog 20 #[.slice oa ds.length cap, .int .i64 i] w (Ret w (fun v H => ∃ r : Option Row, v = .tuple #[Row.v (pathV ds i).length r, .int .i64 (pathE ds i)] ∧ H = Row.b 22 r ∧ Row.ok 32 (pathV ds i).length (fl (pathV ds i)) r)) := by
  refine enter (vs := [.slice oa ds.length cap, .int .i64 i]) Tryd.func20 rfl Tryd.ntmps20 rfl ?_
  refine JC.seq ?_
  refine JC.region ?_
  refine JL.asg ?_
  refine JL.asg ?_
  refine JL.nil ?_
  refine JQ.thenN ?_
  refine JC.seq ?_
  refine JC.seq ?_
  refine JC.region ?_
  refine JL.mv ?_
  refine JL.val rfl rfl rfl (.none rfl) (Ev.lenS rfl Tryd.underlying23) ?_
  refine JL.val rfl rfl rfl (.none rfl) (Ev.bin rfl rfl gtr_int) ?_
  refine JL.nil ?_
  refine JQ.thenN ?_
  refine JC.cond rfl (fun hc1 => ?_) (fun hc1 => ?_)
  · -- t8 True
    replace hc1 := of_decide_eq_true hc1
    have hgr : 1024 < ds.length := by omega
    refine JC.seq ?_
    refine JC.region ?_
    refine JL.asg ?_
    refine JL.asg ?_
    refine JL.nil ?_
    refine JQ.thenN ?_
    refine JC.ret ?_
    refine JQ.thenR ?_
    refine JQ.end2 (H' := []) (.inl rfl) rfl (.tmp rfl) (.tmp rfl) ?_ ?_
    · exact Sub.k
    · exact ⟨none, by rw [pathV_gr hgr, pathE_gr hgr]; rfl, rfl, by rw [pathV_gr hgr]; exact Row.ok0⟩
  · -- t8 False
    replace hc1 := of_decide_eq_false hc1
    have hsm : ¬ 1024 < ds.length := by omega
    have hmx : ds.length ≤ 1100000 := by omega
    refine JC.skip ?_
    refine JQ.thenN ?_
    refine JC.seq ?_
    refine JC.seq ?_
    refine JC.region ?_
    refine JL.mv ?_
    refine JL.val rfl rfl rfl (.none rfl) (Ev.bin rfl rfl lss_int) ?_
    refine JL.mv ?_
    refine JL.split (d := 11) rfl (fun hg1 => ?_) (fun hg1 => ?_)
    · -- guard 11 true
      have hbad : i < 0 ∨ (ds.length : Int) ≤ i := .inl (by have := of_decide_eq_true hg1; omega)
      refine JL.skip rfl rfl (.noF rfl rfl rfl) ?_
      refine JL.skip rfl rfl (.noF rfl rfl rfl) ?_
      refine JL.skip rfl rfl (.noF rfl rfl rfl) ?_
      refine JL.skip rfl rfl (.noF rfl rfl rfl) ?_
      refine JL.val rfl rfl rfl (.none rfl) (Ev.pickT rfl rfl) ?_
      refine JL.nil ?_
      refine JQ.thenN ?_
      refine JC.condT rfl ?_
      refine JC.seq ?_
      refine JC.region ?_
      refine JL.asg ?_
      refine JL.asg ?_
      refine JL.nil ?_
      refine JQ.thenN ?_
      refine JC.ret ?_
      refine JQ.thenR ?_
      refine JQ.end2 (H' := []) (.inl rfl) rfl (.tmp rfl) (.tmp rfl) ?_ ?_
      · exact Sub.k
      · exact ⟨none, by rw [pathV_bad hsm hbad, pathE_bad hsm hbad]; rfl, rfl, by rw [pathV_bad hsm hbad]; exact Row.ok0⟩
    · -- guard 11 false
      have hg1 := of_decide_eq_false hg1
      refine JL.val rfl rfl rfl (.yes rfl rfl rfl) (Ev.move rfl) ?_
      refine JL.val rfl rfl rfl (.yes rfl rfl rfl) (Ev.move rfl) ?_
      refine JL.val rfl rfl rfl (.yes rfl rfl rfl) (Ev.lenS rfl Tryd.underlying23) ?_
      refine JL.val rfl rfl rfl (.yes rfl rfl rfl) (Ev.bin rfl rfl geq_int) ?_
      refine JL.val rfl rfl rfl (.none rfl) (Ev.pickF rfl rfl) ?_
      refine JL.nil ?_
      refine JQ.thenN ?_
      refine JC.cond rfl (fun hc2 => ?_) (fun hc2 => ?_)
      · -- t16 True
        replace hc2 := of_decide_eq_true hc2
        have hbad : i < 0 ∨ (ds.length : Int) ≤ i := .inr (by omega)
        refine JC.seq ?_
        refine JC.region ?_
        refine JL.asg ?_
        refine JL.asg ?_
        refine JL.nil ?_
        refine JQ.thenN ?_
        refine JC.ret ?_
        refine JQ.thenR ?_
        refine JQ.end2 (H' := []) (.inl rfl) rfl (.tmp rfl) (.tmp rfl) ?_ ?_
        · exact Sub.k
        · exact ⟨none, by rw [pathV_bad hsm hbad, pathE_bad hsm hbad]; rfl, rfl, by rw [pathV_bad hsm hbad]; exact Row.ok0⟩
      · -- t16 False
        replace hc2 := of_decide_eq_false hc2
        have hok : ¬ (i < 0 ∨ (ds.length : Int) ≤ i) := by omega
        obtain ⟨n, rfl⟩ : ∃ n : Nat, i = (n : Int) := ⟨i.toNat, by omega⟩
        have hin : n < ds.length := by omega
        refine JC.skip ?_
        refine JQ.thenN ?_
        refine JC.seq ?_
        refine JC.region ?_
        refine JL.mv ?_
        refine JL.mv ?_
        refine JL.callN rfl (.none rfl) rfl Tryd.call37 (fun w1 hw1 => rTo_any oa cap ds n w1 (hd.old hw1) hmx hin) ?_
        rintro _ _ ⟨r1, rfl, rfl, hr1⟩
        refine JL.asg ?_
        refine JL.asg ?_
        refine JL.nil ?_
        refine JQ.thenN ?_
        refine JC.ret ?_
        refine JQ.end2 (H' := (Row.b 22 r1)) (.inl rfl) rfl (.tmp rfl) (.tmp rfl) ?_ ?_
        · exact Sub.k
        · exact ⟨r1, by rw [pathV_ok hsm hok, pathE_ok hsm hok, Int.toNat_natCast], rfl, by rw [pathV_ok hsm hok, Int.toNat_natCast]; exact hr1⟩

theorem great_any (oa : Option Addr) (n cap : Nat) (w : World) :
    Calls Tryd.prog 11 #[.slice oa n cap] w (Ret w (fun v _ => v = .bool (decide (130 < (n : Int))))) := by
  refine enter (vs := [.slice oa n cap]) Tryd.func11 rfl Tryd.ntmps11 rfl ?_
  refine JC.seq ?_
  refine JC.region ?_
  refine JL.asg ?_
  refine JL.nil ?_
  refine JQ.thenN ?_
  refine JC.seq ?_
  refine JC.region ?_
  refine JL.mv ?_
  refine JL.val rfl rfl rfl (.none rfl) (Ev.lenS rfl Tryd.underlying23) ?_
  refine JL.val rfl rfl rfl (.none rfl) (Ev.bin rfl rfl gtr_int) ?_
  refine JL.asg ?_
  refine JL.nil ?_
  refine JQ.thenN ?_
  refine JC.ret ?_
  refine JQ.end1 (H' := []) (.inl rfl) rfl (.tmp rfl) ?_ ?_
  · exact Sub.k
  · exact rfl

theorem dTwin_any (oa : Option Addr) (cap : Nat) (ds : List Dig) (w : World) (hd : Dl w oa cap ds) (hmx : ds.length ≤ 4398046510976) :
    Calls Tryd.prog 16 #[.slice oa ds.length cap] w (Ret w (fun v H => ∃ r : Option Row, v = Row.v ds.length r ∧ H = Row.b 22 r ∧ Row.ok 32 ds.length (fl ds) r)) := by
  refine enter (vs := [.slice oa ds.length cap]) Tryd.func16 rfl Tryd.ntmps16 rfl ?_
  refine JC.seq ?_
  refine JC.region ?_
  refine JL.asg ?_
  refine JL.nil ?_
  refine JQ.thenN ?_
  refine JC.seq ?_
  refine JC.region ?_
  refine JL.asg ?_
  refine JL.nil ?_
  refine JQ.thenN ?_
  refine JC.seq ?_
  refine JC.region ?_
  refine JL.mv ?_
  refine JL.mv ?_
  refine JL.gen rfl rfl rfl (.none rfl) (Eg.appendC (r := none) (n := 0) (xs := fl []) (news := fl ds) (z := (.agg (arr8 (List.replicate 32 0)))) (s := 32) (bytes := 32) rfl rfl rfl (.last) Tryd.underlying23 (by kernel_rfl) rfl (by decide) (by decide) ⟨rfl, rfl⟩ hd (fl_length _) (fl_one _) (by omega)) ?_
  rintro _ _ ⟨r1, rfl, rfl, hr1, hn1⟩
  refine JL.asg ?_
  refine JL.nil ?_
  refine JQ.thenN ?_
  refine JC.ret ?_
  refine JQ.end1 (H' := (Row.b 22 r1)) (.inl rfl) rfl (.tmp rfl) ?_ ?_
  · exact Sub.k
  · exact ⟨r1, by rw [Nat.zero_add], rfl, by rw [Nat.zero_add] at hr1; exact hr1⟩

theorem dSame_any (oa ob : Option Addr) (ca cb : Nat) (l m : List Dig) (w : World) (hl : Dl w oa ca l) (hm : Dl w ob cb m) (hn : l.length ≤ 4398046510976) :
    Calls Tryd.prog 21 #[.slice oa l.length ca, .slice ob m.length cb] w (Ret w (fun v _ => v = .bool (decide (l = m)))) := by
  refine enter (vs := [.slice oa l.length ca, .slice ob m.length cb]) Tryd.func21 rfl Tryd.ntmps21 rfl ?_
  refine JC.seq ?_
  refine JC.region ?_
  refine JL.asg ?_
  refine JL.nil ?_
  refine JQ.thenN ?_
  refine JC.seq ?_
  refine JC.seq ?_
  refine JC.region ?_
  refine JL.mv ?_
  refine JL.val rfl rfl rfl (.none rfl) (Ev.lenS rfl Tryd.underlying23) ?_
  refine JL.mv ?_
  refine JL.val rfl rfl rfl (.none rfl) (Ev.lenS rfl Tryd.underlying23) ?_
  refine JL.val rfl rfl rfl (.none rfl) (Ev.bin rfl rfl neq_int) ?_
  refine JL.nil ?_
  refine JQ.thenN ?_
  refine JC.cond rfl (fun hc1 => ?_) (fun hc1 => ?_)
  · -- t10 True
    replace hc1 := of_decide_eq_true hc1
    have hne : l.length ≠ m.length := by omega
    refine JC.seq ?_
    refine JC.region ?_
    refine JL.asg ?_
    refine JL.nil ?_
    refine JQ.thenN ?_
    refine JC.ret ?_
    refine JQ.thenR ?_
    refine JQ.end1 (H' := []) (.inl rfl) rfl (.tmp rfl) ?_ ?_
    · exact Sub.k
    · exact congrArg Value.bool (decide_eq_false (fun h => hne (by rw [h]))).symm
  · -- t10 False
    replace hc1 := of_decide_eq_false hc1
    have hlen : l.length = m.length := by omega
    refine JC.skip ?_
    refine JQ.thenN ?_
    refine JC.seq ?_
    refine JC.seq ?_
    refine JC.region ?_
    refine JL.asg ?_
    refine JL.nil ?_
    refine JQ.thenN ?_
    refine JC.block ?_
    refine JC.loop (X := Nat)
      (fun k => [(0, .slice oa l.length ca), (1, .slice ob m.length cb), (5, .int .i64 (k : Int))])
      (fun k => [])
      (fun k => k ≤ l.length ∧ ∀ j, j < k → l[j]? = m[j]?)
      (fun k => l.length - k) 0 ?_ ?_ ?_ ?_
    · exact Keeps.k
    · exact Sub.k
    · exact ⟨Nat.zero_le _, fun j hj => by omega⟩
    rintro k ⟨hk, heq⟩
    refine JC.seq ?_
    refine JC.seq ?_
    refine JC.region ?_
    refine JL.mv ?_
    refine JL.mv ?_
    refine JL.val rfl rfl rfl (.none rfl) (Ev.lenS rfl Tryd.underlying23) ?_
    refine JL.val rfl rfl rfl (.none rfl) (Ev.bin rfl rfl lss_int) ?_
    refine JL.nil ?_
    refine JQ.thenN ?_
    refine JC.cond rfl (fun hc2 => ?_) (fun hc2 => ?_)
    · -- t14 True
      replace hc2 := of_decide_eq_true hc2
      have hkn : k < l.length := by omega
      obtain ⟨x, hx⟩ := get_some hkn
      obtain ⟨y, hy⟩ := get_some (l := m) (k := k) (by omega)
      obtain ⟨a, rfl⟩ := Cs.get_some hl (by omega)
      obtain ⟨b, rfl⟩ := Cs.get_some hm (by omega)
      refine JC.skip ?_
      refine JQ.thenN ?_
      refine JC.seq ?_
      refine JC.block ?_
      refine JC.seq ?_
      refine JC.regionQ (by kernel_rfl) (by kernel_rfl) ?_
      refine JW.val rfl rfl (.none rfl) (Ev.move rfl) ?_
      refine JW.val rfl rfl (.none rfl) (Ev.move rfl) ?_
      refine JW.val rfl rfl (.none rfl) (Ev.idxS rfl rfl Tryd.underlying23 Tryd.sizeOf22 (k := k) rfl (by omega)) ?_
      refine JW.val rfl rfl (.none rfl) (Ev.loadD rfl Tryd.underlying22 rfl Tryd.sizeOf22 (Rds.old ((hl.mem a rfl).atD hx))) ?_
      refine JW.val rfl rfl (.none rfl) (Ev.move rfl) ?_
      refine JW.val rfl rfl (.none rfl) (Ev.move rfl) ?_
      refine JW.val rfl rfl (.none rfl) (Ev.idxS rfl rfl Tryd.underlying23 Tryd.sizeOf22 (k := k) rfl (by omega)) ?_
      refine JW.val rfl rfl (.none rfl) (Ev.loadD rfl Tryd.underlying22 rfl Tryd.sizeOf22 (Rds.old ((hm.mem b rfl).atD hy))) ?_
      refine JW.val rfl rfl (.none rfl) (Ev.bin rfl rfl (neq_arr8 (n := 32) Tryd.underlying22 Tryd.underlying5 (by kernel_rfl) (by kernel_rfl) x.2 y.2)) ?_
      refine JW.nilQ ?_
      refine JQ.thenN ?_
      refine JC.cond rfl (fun hc3 => ?_) (fun hc3 => ?_)
      · -- t25 True
        have hd : x ≠ y := fun h => by simp [h] at hc3
        refine JC.seq ?_
        refine JC.region ?_
        refine JL.asg ?_
        refine JL.nil ?_
        refine JQ.thenN ?_
        refine JC.ret ?_
        refine JQ.blockR ?_
        refine JQ.thenR ?_
        refine JQ.thenR ?_
        refine JQ.blockR ?_
        refine JQ.thenR ?_
        refine JQ.end1 (H' := []) (.inl rfl) rfl (.tmp rfl) ?_ ?_
        · exact Sub.k
        · exact congrArg Value.bool (decide_eq_false (fun h => hd (by rw [h, hy] at hx; exact (Option.some.inj hx).symm))).symm
      · -- t25 False
        have hd : x = y := Subtype.ext (by simpa using hc3)
        refine JC.skip ?_
        refine JQ.blockN ?_
        refine JQ.thenN ?_
        refine JC.region ?_
        refine JL.mv ?_
        refine JL.val rfl rfl rfl (.none rfl) (Ev.bin rfl rfl (add_i64 (by omega))) ?_
        refine JL.asg ?_
        refine JL.nil ?_
        refine JQ.loopN (k + 1) ?_ ?_ ?_ ?_
        · exact Keeps.k
        · exact Sub.k
        · exact ⟨by omega, all_succ heq (by rw [hx, hy, hd])⟩
        · omega
    · -- t14 False
      replace hc2 := of_decide_eq_false hc2
      obtain rfl : k = l.length := by omega
      refine JC.exit ?_
      refine JQ.thenE ?_
      refine JQ.thenE ?_
      refine JQ.blockE ?_
      refine JQ.thenN ?_
      refine JC.seq ?_
      refine JC.region ?_
      refine JL.asg ?_
      refine JL.nil ?_
      refine JQ.thenN ?_
      refine JC.ret ?_
      refine JQ.end1 (H' := []) (.inl rfl) rfl (.tmp rfl) ?_ ?_
      · exact Sub.k
      · exact congrArg Value.bool (decide_eq_true (eq_upto hlen heq)).symm

end Go.Proofs.YtebinlinhmohbaaDoor
