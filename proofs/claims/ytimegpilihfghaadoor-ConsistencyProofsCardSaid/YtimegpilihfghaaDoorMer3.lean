/-
  Trees in the reference: roots, paths, lengths, following; lists compared and copied.
-/
import Derived.Test.YtimegpilihfghaaDoorMer2
import Derived.Test.YtimegpilihfghaaDoorDig5
namespace Go.Proofs.YtimegpilihfghaaDoor
open Go Go.RowKit
set_option maxRecDepth 100000

theorem Dl.take {w : World} {oa : Option Addr} {cap : Nat} {ds : List Dig} (h : Dl w oa cap ds) {k : Nat} (hk : k ≤ ds.length) : Dl w oa cap (ds.take k) := by
  have hl : (ds.take k).length = k := by rw [List.length_take]; omega
  have hc := h.le
  refine ⟨by omega, h.top, h.empty, fun a ha => ?_⟩
  have := (h.mem a ha).cut 0 (k * 32)
  rwa [List.drop_zero, show a.add 0 = a from by simp [Addr.add], fl_take] at this
theorem Dl.drop {w : World} {oa : Option Addr} {cap : Nat} {ds : List Dig} (h : Dl w oa cap ds) {k : Nat} (hk : k ≤ ds.length) :
    ∃ ob, sub3 oa k ds.length cap 32 = .slice ob (ds.drop k).length (cap - k) ∧ ∀ w', Dl w' oa cap ds → Dl w' ob (cap - k) (ds.drop k) := by
  obtain ⟨ob, h1, h2⟩ := sub3_cut h hk (Nat.le_refl _) h.le (Nat.le_refl _)
  have e : (ds.drop k).take (ds.length - k) = ds.drop k := List.take_of_length_le (by rw [List.length_drop]; omega)
  rw [e] at h1 h2
  exact ⟨ob, h1, h2⟩
theorem rNodeG_any (a b : Dig) (w : World) :
    Calls Tryd.prog 53 #[.agg (arr8 a.1), .agg (arr8 b.1)] w (Ret w fun v _ => v = .agg (arr8 (nodeD a b).1)) := rNode_any a.1 b.1 a.2 b.2 w
theorem neq_arr8 {P : Program} {T e : TypeId} {n : Nat} (hT : P.underlying T = some (.array n e)) (he : P.underlying e = some (.int .u8)) (hc : P.cellsOf e = 1) (hg : P.eqGuardType P.depth T = false) {l m : List UInt8} (hl : l.length = n) (hm : m.length = n) :
    Bin P .neq T (.agg (arr8 l)) (.agg (arr8 m)) (.bool (!decide (l = m))) := fun x y w => by
  have h1 := eql_arr8 hT he hc hg hl hm x y w
  have e1 : (eqGuard .neq T x y (.agg (arr8 l)) (.agg (arr8 m))).run P w = .ok () w := run_eqGuard_agg (P := P) w .neq T x y _ _ hg
  have e2 : (eqGuard .eql T x y (.agg (arr8 l)) (.agg (arr8 m))).run P w = .ok () w := run_eqGuard_agg (P := P) w .eql T x y _ _ hg
  simp only [Sem.run_bind, e2, Result.andThen_ok] at h1
  simp only [Sem.run_bind, e1, Result.andThen_ok]
  rw [run_neq_struct]
  rw [run_eql_struct] at h1
  generalize (Op.equalIn 10000 T (.agg (arr8 l)) (.agg (arr8 m))).run P w = r at *
  cases r with
  | ok b w' =>
    simp only [Result.andThen_ok, Result.ok.injEq, Value.bool.injEq] at h1
    obtain ⟨rfl, rfl⟩ := h1
    rfl
  | halt x w' => simp [Result.andThen] at h1

theorem below_any (n : Nat) (h2 : 2 ≤ n) (hn : n ≤ 2000000) (w : World) :
    Calls Tryd.prog 59 #[.int .i64 (n : Int)] w (Ret w (fun v _ => v = .int .i64 ((bel n : Nat) : Int))) := by
  refine enter (vs := [.int .i64 (n : Int)]) Tryd.func59 rfl Tryd.ntmps59 rfl ?_
  refine JC.seq ?_
  refine JC.region ?_
  refine JL.asg ?_
  refine JL.nil ?_
  refine JQ.thenN ?_
  refine JC.seq ?_
  refine JC.region ?_
  refine JL.asg ?_
  refine JL.nil ?_
  refine JQ.thenN ?_
  refine JC.seq ?_
  refine JC.block ?_
  refine JC.loop (X := Nat × Nat)
    (fun ⟨j, p⟩ => [(0, .int .i64 (n : Int)), (3, .int .i64 (p : Int))])
    (fun ⟨j, p⟩ => [])
    (fun ⟨j, p⟩ => p = 2 ^ j ∧ p < n)
    (fun ⟨j, p⟩ => n - p) (0, 1) ?_ ?_ ?_ ?_
  · exact Keeps.k
  · exact Sub.k
  · exact ⟨rfl, by omega⟩
  rintro ⟨j, p⟩ ⟨hp, hpn⟩
  have hp1 : 1 ≤ p := by rw [hp]; exact Nat.one_le_two_pow
  refine JC.seq ?_
  refine JC.seq ?_
  refine JC.region ?_
  refine JL.mv ?_
  refine JL.val rfl rfl rfl (.none rfl) (Ev.bin rfl rfl (mul_i64 (by omega))) ?_
  refine JL.mv ?_
  refine JL.val rfl rfl rfl (.none rfl) (Ev.bin rfl rfl lss_int) ?_
  refine JL.nil ?_
  refine JQ.thenN ?_
  refine JC.cond rfl (fun hc1 => ?_) (fun hc1 => ?_)
  · -- t7 True
    replace hc1 := of_decide_eq_true hc1
    refine JC.skip ?_
    refine JQ.thenN ?_
    refine JC.block ?_
    refine JC.region ?_
    refine JL.mv ?_
    refine JL.val rfl rfl rfl (.none rfl) (Ev.bin rfl rfl (mul_i64 (by omega))) ?_
    refine JL.asg ?_
    refine JL.nil ?_
    refine JQ.blockN ?_
    refine JQ.re (d := 3) (v' := .int .i64 ((2 * p : Nat) : Int)) rfl (congrArg (Value.int .i64) (by omega)) ?_
    refine JQ.loopN (j + 1, 2 * p) ?_ ?_ ?_ ?_
    · exact Keeps.k
    · exact Sub.k
    · exact ⟨by rw [Nat.pow_succ, ← hp]; omega, by omega⟩
    · show n - 2 * p < n - p; omega
  · -- t7 False
    replace hc1 := of_decide_eq_false hc1
    refine JC.exit ?_
    refine JQ.thenE ?_
    refine JQ.thenE ?_
    refine JQ.blockE ?_
    refine JQ.thenN ?_
    refine JC.seq ?_
    refine JC.region ?_
    refine JL.mv ?_
    refine JL.asg ?_
    refine JL.nil ?_
    refine JQ.thenN ?_
    refine JC.ret ?_
    refine JQ.end1 (H' := []) (.inl rfl) rfl (.tmp rfl) ?_ ?_
    · exact Sub.k
    · exact congrArg (fun x : Nat => Value.int .i64 (x : Int)) (by rw [hp]; exact (bel_of (by omega) (by rw [Nat.pow_succ, ← hp]; omega)).symm)

theorem rOf_any_step (N : Nat) (ih : ∀ (oa : Option Addr) (cap : Nat) (ds : List Dig) (w : World) (_ : Dl w oa cap ds) (_ : ds.length ≤ 1100000), ds.length < N → Calls Tryd.prog 60 #[.slice oa ds.length cap] w (Ret w (fun v _ => v = .agg (arr8 (rootR ds).1)))) (oa : Option Addr) (cap : Nat) (ds : List Dig) (w : World) (hd : Dl w oa cap ds) (hmx : ds.length ≤ 1100000) (hN : ds.length = N) :
    Calls Tryd.prog 60 #[.slice oa ds.length cap] w (Ret w (fun v _ => v = .agg (arr8 (rootR ds).1))) := by
  refine enter (vs := [.slice oa ds.length cap]) Tryd.func60 rfl Tryd.ntmps60 rfl ?_
  refine JC.seq ?_
  refine JC.region ?_
  refine JL.new rfl rfl rfl (.none rfl) (En.allocZ (cs := arr8 (List.replicate 32 0)) Tryd.zeroValue22 rfl) (fun b2 hb2 => ?_)
  refine JL.nil ?_
  refine JQ.thenN ?_
  refine JC.seq ?_
  refine JC.seq ?_
  refine JC.region ?_
  refine JL.mv ?_
  refine JL.val rfl rfl rfl (.none rfl) (Ev.lenS rfl Tryd.underlying23) ?_
  refine JL.val rfl rfl rfl (.none rfl) (Ev.bin rfl rfl eql_int) ?_
  refine JL.nil ?_
  refine JQ.thenN ?_
  refine JC.cond rfl (fun hc1 => ?_) (fun hc1 => ?_)
  · -- t6 True
    replace hc1 := of_decide_eq_true hc1
    have hnil : ds = [] := List.eq_nil_of_length_eq_zero (by omega)
    refine JC.seq ?_
    refine JC.region ?_
    refine JL.callV rfl (.none rfl) rfl Tryd.call52 (fun w1 hw1 => of_any none 0 [] w1 bs_nil (Nat.zero_le _)) ?_
    refine JL.sto rfl rfl (.none rfl) (Es.sA Tryd.sizeOf22) ?_
    refine JL.nil ?_
    refine JQ.thenN ?_
    refine JC.ret ?_
    refine JQ.thenR ?_
    refine JQ.end1 (H' := []) (.inl rfl) rfl (.agg rfl memK Tryd.underlying22 rfl Tryd.sizeOf22 szK) ?_ ?_
    · exact Sub.k
    · subst hnil; rfl
  · -- t6 False
    replace hc1 := of_decide_eq_false hc1
    refine JC.skip ?_
    refine JQ.thenN ?_
    refine JC.seq ?_
    refine JC.seq ?_
    refine JC.region ?_
    refine JL.mv ?_
    refine JL.val rfl rfl rfl (.none rfl) (Ev.lenS rfl Tryd.underlying23) ?_
    refine JL.val rfl rfl rfl (.none rfl) (Ev.bin rfl rfl eql_int) ?_
    refine JL.nil ?_
    refine JQ.thenN ?_
    refine JC.cond rfl (fun hc2 => ?_) (fun hc2 => ?_)
    · -- t10 True
      replace hc2 := of_decide_eq_true hc2
      have h1 : ds.length = 1 := by omega
      obtain ⟨a, rfl⟩ := Cs.get_some hd (by omega)
      obtain ⟨d, hd0⟩ := get_some (l := ds) (k := 0) (by omega)
      refine JC.seq ?_
      refine JC.region ?_
      refine JL.mv ?_
      refine JL.val rfl rfl rfl (.none rfl) (Ev.idxS (k := 0) rfl rfl Tryd.underlying23 Tryd.sizeOf22 rfl (by omega)) ?_
      refine JL.val rfl rfl rfl (.none rfl) (Ev.loadD rfl Tryd.underlying22 rfl Tryd.sizeOf22 (Rds.old ((hd.mem a rfl).atD hd0))) ?_
      refine JL.sto rfl rfl (.none rfl) (Es.sA Tryd.sizeOf22) ?_
      refine JL.nil ?_
      refine JQ.thenN ?_
      refine JC.ret ?_
      refine JQ.thenR ?_
      refine JQ.end1 (H' := []) (.inl rfl) rfl (.agg rfl memK Tryd.underlying22 rfl Tryd.sizeOf22 szK) ?_ ?_
      · exact Sub.k
      · rw [rootR_len1 h1 hd0]
    · -- t10 False
      replace hc2 := of_decide_eq_false hc2
      have h2 : 2 ≤ ds.length := by omega
      have hbl := bel_lt h2
      have hbp := bel_pos ds.length
      obtain ⟨ob, eob, hob⟩ := Dl.drop hd (show bel ds.length ≤ ds.length by omega)
      have htl : (ds.take (bel ds.length)).length = bel ds.length := by rw [List.length_take]; omega
      have hdl : (ds.drop (bel ds.length)).length = ds.length - bel ds.length := List.length_drop
      refine JC.skip ?_
      refine JQ.thenN ?_
      refine JC.seq ?_
      refine JC.region ?_
      refine JL.mv ?_
      refine JL.val rfl rfl rfl (.none rfl) (Ev.lenS rfl Tryd.underlying23) ?_
      refine JL.callV rfl (.none rfl) rfl Tryd.call59 (fun w1 hw1 => below_any ds.length (by omega) (by omega) w1) ?_
      refine JL.asg ?_
      refine JL.nil ?_
      refine JQ.thenN ?_
      refine JC.seq ?_
      refine JC.regionT 9 (by kernel_rfl) (by kernel_rfl) (List.take_append_drop 9 _).symm rfl ?_
      refine JW.val rfl rfl (.none rfl) (Ev.move rfl) ?_
      refine JW.val rfl rfl (.none rfl) (Ev.move rfl) ?_
      refine JW.val rfl rfl (.none rfl) (Ev.cast (v' := .slice oa (ds.take (bel ds.length)).length cap) (by rw [sub3_0, htl]) (Ev.sliceHi rfl rfl Tryd.underlying23 Tryd.sizeOf22 (h := bel ds.length) rfl (by have := hd.le; omega))) ?_
      refine JW.call rfl (.none rfl) rfl Tryd.call60 (fun w1 hw1 => ih oa cap (ds.take (bel ds.length)) w1 (Dl.take (hd.old hw1) (by omega)) (by omega) (by omega)) ?_
      refine JW.val rfl rfl (.none rfl) (Ev.move rfl) ?_
      refine JW.val rfl rfl (.none rfl) (Ev.move rfl) ?_
      refine JW.val rfl rfl (.none rfl) (Ev.cast (v' := .slice ob (ds.drop (bel ds.length)).length (cap - bel ds.length)) (eob) (Ev.sliceLo rfl rfl Tryd.underlying23 Tryd.sizeOf22 (l := bel ds.length) rfl (by omega))) ?_
      refine JW.call rfl (.none rfl) rfl Tryd.call60 (fun w1 hw1 => ih ob (cap - bel ds.length) (ds.drop (bel ds.length)) w1 (hob w1 (hd.old hw1)) (by omega) (by omega)) ?_
      refine JW.call rfl (.none rfl) rfl Tryd.call53 (fun w1 hw1 => rNodeG_any _ _ w1) ?_
      refine JW.tail ?_
      refine JL.sto rfl rfl (.none rfl) (Es.sA Tryd.sizeOf22) ?_
      refine JL.nil ?_
      refine JQ.thenN ?_
      refine JC.ret ?_
      refine JQ.end1 (H' := []) (.inl rfl) rfl (.agg rfl memK Tryd.underlying22 rfl Tryd.sizeOf22 szK) ?_ ?_
      · exact Sub.k
      · rw [rootR_split h2]
theorem rOf_any (oa : Option Addr) (cap : Nat) (ds : List Dig) (w : World) (hd : Dl w oa cap ds) (hmx : ds.length ≤ 1100000) :
    Calls Tryd.prog 60 #[.slice oa ds.length cap] w (Ret w (fun v _ => v = .agg (arr8 (rootR ds).1))) := by
  have key : ∀ (N : Nat) (oa : Option Addr) (cap : Nat) (ds : List Dig) (w : World) (hd : Dl w oa cap ds) (hmx : ds.length ≤ 1100000), ds.length = N → Calls Tryd.prog 60 #[.slice oa ds.length cap] w (Ret w (fun v _ => v = .agg (arr8 (rootR ds).1))) := by
    intro N
    induction N using Nat.strongRecOn with
    | _ N IH =>
      intro oa cap ds w hd hmx hN
      exact rOf_any_step N (fun oa cap ds w hd hmx hlt => IH _ hlt oa cap ds w hd hmx rfl) oa cap ds w hd hmx hN
  exact key _ oa cap ds w hd hmx rfl

theorem great_any (oa : Option Addr) (n cap : Nat) (w : World) :
    Calls Tryd.prog 11 #[.slice oa n cap] w (Ret w (fun v _ => v = .bool (decide (130 < (n : Int))))) := by
  refine enter (vs := [.slice oa n cap]) Tryd.func11 rfl Tryd.ntmps11 rfl ?_
  refine JC.seq ?_
  refine JC.region ?_
  refine JL.asg ?_
  refine JL.nil ?_
  refine JQ.thenN ?_
  refine JC.seq ?_
  refine JC.region ?_
  refine JL.mv ?_
  refine JL.val rfl rfl rfl (.none rfl) (Ev.lenS rfl Tryd.underlying23) ?_
  refine JL.val rfl rfl rfl (.none rfl) (Ev.bin rfl rfl gtr_int) ?_
  refine JL.asg ?_
  refine JL.nil ?_
  refine JQ.thenN ?_
  refine JC.ret ?_
  refine JQ.end1 (H' := []) (.inl rfl) rfl (.tmp rfl) ?_ ?_
  · exact Sub.k
  · exact rfl

theorem dTwin_any (oa : Option Addr) (cap : Nat) (ds : List Dig) (w : World) (hd : Dl w oa cap ds) (hmx : ds.length ≤ 4398046510976) :
    Calls Tryd.prog 16 #[.slice oa ds.length cap] w (Ret w (fun v H => ∃ r : Option Row, v = Row.v ds.length r ∧ H = Row.b 22 r ∧ Row.ok 32 ds.length (fl ds) r)) := by
  refine enter (vs := [.slice oa ds.length cap]) Tryd.func16 rfl Tryd.ntmps16 rfl ?_
  refine JC.seq ?_
  refine JC.region ?_
  refine JL.asg ?_
  refine JL.nil ?_
  refine JQ.thenN ?_
  refine JC.seq ?_
  refine JC.region ?_
  refine JL.asg ?_
  refine JL.nil ?_
  refine JQ.thenN ?_
  refine JC.seq ?_
  refine JC.region ?_
  refine JL.mv ?_
  refine JL.mv ?_
  refine JL.gen rfl rfl rfl (.none rfl) (Eg.appendC (r := none) (n := 0) (xs := fl []) (news := fl ds) (z := (.agg (arr8 (List.replicate 32 0)))) (s := 32) (bytes := 32) rfl rfl rfl (.last) Tryd.underlying23 (by kernel_rfl) rfl (by decide) (by decide) ⟨rfl, rfl⟩ hd (fl_length _) (fl_one _) (by omega)) ?_
  rintro _ _ ⟨r1, rfl, rfl, hr1, hn1⟩
  refine JL.asg ?_
  refine JL.nil ?_
  refine JQ.thenN ?_
  refine JC.ret ?_
  refine JQ.end1 (H' := (Row.b 22 r1)) (.inl rfl) rfl (.tmp rfl) ?_ ?_
  · exact Sub.k
  · exact ⟨r1, by rw [Nat.zero_add], rfl, by rw [Nat.zero_add] at hr1; exact hr1⟩

theorem dSame_any (oa ob : Option Addr) (ca cb : Nat) (l m : List Dig) (w : World) (hl : Dl w oa ca l) (hm : Dl w ob cb m) (hn : l.length ≤ 4398046510976) :
    Calls Tryd.prog 21 #[.slice oa l.length ca, .slice ob m.length cb] w (Ret w (fun v _ => v = .bool (decide (l = m)))) := by
  refine enter (vs := [.slice oa l.length ca, .slice ob m.length cb]) Tryd.func21 rfl Tryd.ntmps21 rfl ?_
  refine JC.seq ?_
  refine JC.region ?_
  refine JL.asg ?_
  refine JL.nil ?_
  refine JQ.thenN ?_
  refine JC.seq ?_
  refine JC.seq ?_
  refine JC.region ?_
  refine JL.mv ?_
  refine JL.val rfl rfl rfl (.none rfl) (Ev.lenS rfl Tryd.underlying23) ?_
  refine JL.mv ?_
  refine JL.val rfl rfl rfl (.none rfl) (Ev.lenS rfl Tryd.underlying23) ?_
  refine JL.val rfl rfl rfl (.none rfl) (Ev.bin rfl rfl neq_int) ?_
  refine JL.nil ?_
  refine JQ.thenN ?_
  refine JC.cond rfl (fun hc1 => ?_) (fun hc1 => ?_)
  · -- t10 True
    replace hc1 := of_decide_eq_true hc1
    have hne : l.length ≠ m.length := by omega
    refine JC.seq ?_
    refine JC.region ?_
    refine JL.asg ?_
    refine JL.nil ?_
    refine JQ.thenN ?_
    refine JC.ret ?_
    refine JQ.thenR ?_
    refine JQ.end1 (H' := []) (.inl rfl) rfl (.tmp rfl) ?_ ?_
    · exact Sub.k
    · exact congrArg Value.bool (decide_eq_false (fun h => hne (by rw [h]))).symm
  · -- t10 False
    replace hc1 := of_decide_eq_false hc1
    have hlen : l.length = m.length := by omega
    refine JC.skip ?_
    refine JQ.thenN ?_
    refine JC.seq ?_
    refine JC.seq ?_
    refine JC.region ?_
    refine JL.asg ?_
    refine JL.nil ?_
    refine JQ.thenN ?_
    refine JC.block ?_
    refine JC.loop (X := Nat)
      (fun k => [(0, .slice oa l.length ca), (1, .slice ob m.length cb), (5, .int .i64 (k : Int))])
      (fun k => [])
      (fun k => k ≤ l.length ∧ ∀ j, j < k → l[j]? = m[j]?)
      (fun k => l.length - k) 0 ?_ ?_ ?_ ?_
    · exact Keeps.k
    · exact Sub.k
    · exact ⟨Nat.zero_le _, fun j hj => by omega⟩
    rintro k ⟨hk, heq⟩
    refine JC.seq ?_
    refine JC.seq ?_
    refine JC.region ?_
    refine JL.mv ?_
    refine JL.mv ?_
    refine JL.val rfl rfl rfl (.none rfl) (Ev.lenS rfl Tryd.underlying23) ?_
    refine JL.val rfl rfl rfl (.none rfl) (Ev.bin rfl rfl lss_int) ?_
    refine JL.nil ?_
    refine JQ.thenN ?_
    refine JC.cond rfl (fun hc2 => ?_) (fun hc2 => ?_)
    · -- t14 True
      replace hc2 := of_decide_eq_true hc2
      have hkn : k < l.length := by omega
      obtain ⟨x, hx⟩ := get_some hkn
      obtain ⟨y, hy⟩ := get_some (l := m) (k := k) (by omega)
      obtain ⟨a, rfl⟩ := Cs.get_some hl (by omega)
      obtain ⟨b, rfl⟩ := Cs.get_some hm (by omega)
      refine JC.skip ?_
      refine JQ.thenN ?_
      refine JC.seq ?_
      refine JC.block ?_
      refine JC.seq ?_
      refine JC.regionQ (by kernel_rfl) (by kernel_rfl) ?_
      refine JW.val rfl rfl (.none rfl) (Ev.move rfl) ?_
      refine JW.val rfl rfl (.none rfl) (Ev.move rfl) ?_
      refine JW.val rfl rfl (.none rfl) (Ev.idxS rfl rfl Tryd.underlying23 Tryd.sizeOf22 (k := k) rfl (by omega)) ?_
      refine JW.val rfl rfl (.none rfl) (Ev.loadD rfl Tryd.underlying22 rfl Tryd.sizeOf22 (Rds.old ((hl.mem a rfl).atD hx))) ?_
      refine JW.val rfl rfl (.none rfl) (Ev.move rfl) ?_
      refine JW.val rfl rfl (.none rfl) (Ev.move rfl) ?_
      refine JW.val rfl rfl (.none rfl) (Ev.idxS rfl rfl Tryd.underlying23 Tryd.sizeOf22 (k := k) rfl (by omega)) ?_
      refine JW.val rfl rfl (.none rfl) (Ev.loadD rfl Tryd.underlying22 rfl Tryd.sizeOf22 (Rds.old ((hm.mem b rfl).atD hy))) ?_
      refine JW.val rfl rfl (.none rfl) (Ev.bin rfl rfl (neq_arr8 (n := 32) Tryd.underlying22 Tryd.underlying5 (by kernel_rfl) (by kernel_rfl) x.2 y.2)) ?_
      refine JW.nilQ ?_
      refine JQ.thenN ?_
      refine JC.cond rfl (fun hc3 => ?_) (fun hc3 => ?_)
      · -- t25 True
        have hd : x ≠ y := fun h => by simp [h] at hc3
        refine JC.seq ?_
        refine JC.region ?_
        refine JL.asg ?_
        refine JL.nil ?_
        refine JQ.thenN ?_
        refine JC.ret ?_
        refine JQ.blockR ?_
        refine JQ.thenR ?_
        refine JQ.thenR ?_
        refine JQ.blockR ?_
        refine JQ.thenR ?_
        refine JQ.end1 (H' := []) (.inl rfl) rfl (.tmp rfl) ?_ ?_
        · exact Sub.k
        · exact congrArg Value.bool (decide_eq_false (fun h => hd (by rw [h, hy] at hx; exact (Option.some.inj hx).symm))).symm
      · -- t25 False
        have hd : x = y := Subtype.ext (by simpa using hc3)
        refine JC.skip ?_
        refine JQ.blockN ?_
        refine JQ.thenN ?_
        refine JC.region ?_
        refine JL.mv ?_
        refine JL.val rfl rfl rfl (.none rfl) (Ev.bin rfl rfl (add_i64 (by omega))) ?_
        refine JL.asg ?_
        refine JL.nil ?_
        refine JQ.loopN (k + 1) ?_ ?_ ?_ ?_
        · exact Keeps.k
        · exact Sub.k
        · exact ⟨by omega, all_succ heq (by rw [hx, hy, hd])⟩
        · omega
    · -- t14 False
      replace hc2 := of_decide_eq_false hc2
      obtain rfl : k = l.length := by omega
      refine JC.exit ?_
      refine JQ.thenE ?_
      refine JQ.thenE ?_
      refine JQ.blockE ?_
      refine JQ.thenN ?_
      refine JC.seq ?_
      refine JC.region ?_
      refine JL.asg ?_
      refine JL.nil ?_
      refine JQ.thenN ?_
      refine JC.ret ?_
      refine JQ.end1 (H' := []) (.inl rfl) rfl (.tmp rfl) ?_ ?_
      · exact Sub.k
      · exact congrArg Value.bool (decide_eq_true (eq_upto hlen heq)).symm

end Go.Proofs.YtimegpilihfghaaDoor
