/-
  Trees in the reference: roots, paths, lengths, following; lists compared and copied.
-/
import Derived.Test.YtopaednfjjjnbaaDoorMer2Fk
import Derived.Test.YtopaednfjjjnbaaDoorPackCFk
namespace Go.Proofs.YtopaednfjjjnbaaDoor
open Go Go.RowKit
set_option maxRecDepth 100000

theorem Dl.take {w : World} {oa : Option Addr} {cap : Nat} {ds : List Dig} (h : Dl w oa cap ds) {k : Nat} (hk : k ≤ ds.length) : Dl w oa cap (ds.take k) := by
  have hl : (ds.take k).length = k := by rw [List.length_take]; omega
  have hc := h.le
  refine ⟨by omega, h.top, h.empty, fun a ha => ?_⟩
  have := (h.mem a ha).cut 0 (k * 32)
  rwa [List.drop_zero, show a.add 0 = a from by simp [Addr.add], fl_take] at this
theorem Dl.drop {w : World} {oa : Option Addr} {cap : Nat} {ds : List Dig} (h : Dl w oa cap ds) {k : Nat} (hk : k ≤ ds.length) :
    ∃ ob, sub3 oa k ds.length cap 32 = .slice ob (ds.drop k).length (cap - k) ∧ ∀ w', Dl w' oa cap ds → Dl w' ob (cap - k) (ds.drop k) := by
  obtain ⟨ob, h1, h2⟩ := sub3_cut h hk (Nat.le_refl _) h.le (Nat.le_refl _)
  have e : (ds.drop k).take (ds.length - k) = ds.drop k := List.take_of_length_le (by rw [List.length_drop]; omega)
  rw [e] at h1 h2
  exact ⟨ob, h1, h2⟩
theorem neq_arr8 {P : Program} {T e : TypeId} {n : Nat} (hT : P.underlying T = some (.array n e)) (he : P.underlying e = some (.int .u8)) (hc : P.cellsOf e = 1) (hg : P.eqGuardType P.depth T = false) {l m : List UInt8} (hl : l.length = n) (hm : m.length = n) :
    Bin P .neq T (.agg (arr8 l)) (.agg (arr8 m)) (.bool (!decide (l = m))) := fun x y w => by
  have h1 := eql_arr8 hT he hc hg hl hm x y w
  have e1 : (eqGuard .neq T x y (.agg (arr8 l)) (.agg (arr8 m))).run P w = .ok () w := run_eqGuard_agg (P := P) w .neq T x y _ _ hg
  have e2 : (eqGuard .eql T x y (.agg (arr8 l)) (.agg (arr8 m))).run P w = .ok () w := run_eqGuard_agg (P := P) w .eql T x y _ _ hg
  simp only [Sem.run_bind, e2, Result.andThen_ok] at h1
  simp only [Sem.run_bind, e1, Result.andThen_ok]
  rw [run_neq_struct]
  rw [run_eql_struct] at h1
  generalize (Op.equalIn 10000 T (.agg (arr8 l)) (.agg (arr8 m))).run P w = r at *
  cases r with
  | ok b w' =>
    simp only [Result.andThen_ok, Result.ok.injEq, Value.bool.injEq] at h1
    obtain ⟨rfl, rfl⟩ := h1
    rfl
  | halt x w' => simp [Result.andThen] at h1

theorem great_any (oa : Option Addr) (n cap : Nat) (w : World) :
    Calls Tryd.prog 39 #[.slice oa n cap] w (Ret w (fun v _ => v = .bool (decide (130 < (n : Int))))) := by
  refine enter (vs := [.slice oa n cap]) Tryd.func39 rfl Tryd.ntmps39 rfl ?_
  refine JC.seq ?_
  refine JC.region ?_
  refine JL.asg ?_
  refine JL.nil ?_
  refine JQ.thenN ?_
  refine JC.seq ?_
  refine JC.region ?_
  refine JL.mv ?_
  refine JL.val rfl rfl rfl (.none rfl) (Ev.lenS rfl Tryd.underlying39) ?_
  refine JL.val rfl rfl rfl (.none rfl) (Ev.bin rfl rfl gtr_int) ?_
  refine JL.asg ?_
  refine JL.nil ?_
  refine JQ.thenN ?_
  refine JC.ret ?_
  refine JQ.end1 (H' := []) (.inl rfl) rfl (.tmp rfl) ?_ ?_
  · exact Sub.k
  · exact rfl

theorem dSame_any (oa ob : Option Addr) (ca cb : Nat) (l m : List Dig) (w : World) (hl : Dl w oa ca l) (hm : Dl w ob cb m) (hn : l.length ≤ 4398046510976) :
    Calls Tryd.prog 41 #[.slice oa l.length ca, .slice ob m.length cb] w (Ret w (fun v _ => v = .bool (decide (l = m)))) := by
  refine enter (vs := [.slice oa l.length ca, .slice ob m.length cb]) Tryd.func41 rfl Tryd.ntmps41 rfl ?_
  refine JC.seq ?_
  refine JC.region ?_
  refine JL.asg ?_
  refine JL.nil ?_
  refine JQ.thenN ?_
  refine JC.seq ?_
  refine JC.seq ?_
  refine JC.region ?_
  refine JL.mv ?_
  refine JL.val rfl rfl rfl (.none rfl) (Ev.lenS rfl Tryd.underlying39) ?_
  refine JL.mv ?_
  refine JL.val rfl rfl rfl (.none rfl) (Ev.lenS rfl Tryd.underlying39) ?_
  refine JL.val rfl rfl rfl (.none rfl) (Ev.bin rfl rfl neq_int) ?_
  refine JL.nil ?_
  refine JQ.thenN ?_
  refine JC.cond rfl (fun hc1 => ?_) (fun hc1 => ?_)
  · -- t10 True
    replace hc1 := of_decide_eq_true hc1
    have hne : l.length ≠ m.length := by omega
    refine JC.seq ?_
    refine JC.region ?_
    refine JL.asg ?_
    refine JL.nil ?_
    refine JQ.thenN ?_
    refine JC.ret ?_
    refine JQ.thenR ?_
    refine JQ.end1 (H' := []) (.inl rfl) rfl (.tmp rfl) ?_ ?_
    · exact Sub.k
    · exact congrArg Value.bool (decide_eq_false (fun h => hne (by rw [h]))).symm
  · -- t10 False
    replace hc1 := of_decide_eq_false hc1
    have hlen : l.length = m.length := by omega
    refine JC.skip ?_
    refine JQ.thenN ?_
    refine JC.seq ?_
    refine JC.seq ?_
    refine JC.region ?_
    refine JL.asg ?_
    refine JL.nil ?_
    refine JQ.thenN ?_
    refine JC.block ?_
    refine JC.loop (X := Nat)
      (fun k => [(0, .slice oa l.length ca), (1, .slice ob m.length cb), (5, .int .i64 (k : Int))])
      (fun k => [])
      (fun k => k ≤ l.length ∧ ∀ j, j < k → l[j]? = m[j]?)
      (fun k => l.length - k) 0 ?_ ?_ ?_ ?_
    · exact Keeps.k
    · exact Sub.k
    · exact ⟨Nat.zero_le _, fun j hj => by omega⟩
    rintro k ⟨hk, heq⟩
    refine JC.seq ?_
    refine JC.seq ?_
    refine JC.region ?_
    refine JL.mv ?_
    refine JL.mv ?_
    refine JL.val rfl rfl rfl (.none rfl) (Ev.lenS rfl Tryd.underlying39) ?_
    refine JL.val rfl rfl rfl (.none rfl) (Ev.bin rfl rfl lss_int) ?_
    refine JL.nil ?_
    refine JQ.thenN ?_
    refine JC.cond rfl (fun hc2 => ?_) (fun hc2 => ?_)
    · -- t14 True
      replace hc2 := of_decide_eq_true hc2
      have hkn : k < l.length := by omega
      obtain ⟨x, hx⟩ := get_some hkn
      obtain ⟨y, hy⟩ := get_some (l := m) (k := k) (by omega)
      obtain ⟨a, rfl⟩ := Cs.get_some hl (by omega)
      obtain ⟨b, rfl⟩ := Cs.get_some hm (by omega)
      refine JC.skip ?_
      refine JQ.thenN ?_
      refine JC.seq ?_
      refine JC.block ?_
      refine JC.seq ?_
      refine JC.regionQ (by kernel_rfl) (by kernel_rfl) ?_
      refine JW.val rfl rfl (.none rfl) (Ev.move rfl) ?_
      refine JW.val rfl rfl (.none rfl) (Ev.move rfl) ?_
      refine JW.val rfl rfl (.none rfl) (Ev.idxS rfl rfl Tryd.underlying39 Tryd.sizeOf33 (k := k) rfl (by omega)) ?_
      refine JW.val rfl rfl (.none rfl) (Ev.loadD rfl Tryd.underlying33 rfl Tryd.sizeOf33 (Rds.old ((hl.mem a rfl).atD hx))) ?_
      refine JW.val rfl rfl (.none rfl) (Ev.move rfl) ?_
      refine JW.val rfl rfl (.none rfl) (Ev.move rfl) ?_
      refine JW.val rfl rfl (.none rfl) (Ev.idxS rfl rfl Tryd.underlying39 Tryd.sizeOf33 (k := k) rfl (by omega)) ?_
      refine JW.val rfl rfl (.none rfl) (Ev.loadD rfl Tryd.underlying33 rfl Tryd.sizeOf33 (Rds.old ((hm.mem b rfl).atD hy))) ?_
      refine JW.val rfl rfl (.none rfl) (Ev.bin rfl rfl (neq_arr8 (n := 32) Tryd.underlying33 Tryd.underlying5 (by kernel_rfl) (by kernel_rfl) x.2 y.2)) ?_
      refine JW.nilQ ?_
      refine JQ.thenN ?_
      refine JC.cond rfl (fun hc3 => ?_) (fun hc3 => ?_)
      · -- t25 True
        have hd : x ≠ y := fun h => by simp [h] at hc3
        refine JC.seq ?_
        refine JC.region ?_
        refine JL.asg ?_
        refine JL.nil ?_
        refine JQ.thenN ?_
        refine JC.ret ?_
        refine JQ.blockR ?_
        refine JQ.thenR ?_
        refine JQ.thenR ?_
        refine JQ.blockR ?_
        refine JQ.thenR ?_
        refine JQ.end1 (H' := []) (.inl rfl) rfl (.tmp rfl) ?_ ?_
        · exact Sub.k
        · exact congrArg Value.bool (decide_eq_false (fun h => hd (by rw [h, hy] at hx; exact (Option.some.inj hx).symm))).symm
      · -- t25 False
        have hd : x = y := Subtype.ext (by simpa using hc3)
        refine JC.skip ?_
        refine JQ.blockN ?_
        refine JQ.thenN ?_
        refine JC.region ?_
        refine JL.mv ?_
        refine JL.val rfl rfl rfl (.none rfl) (Ev.bin rfl rfl (add_i64 (by omega))) ?_
        refine JL.asg ?_
        refine JL.nil ?_
        refine JQ.loopN (k + 1) ?_ ?_ ?_ ?_
        · exact Keeps.k
        · exact Sub.k
        · exact ⟨by omega, all_succ heq (by rw [hx, hy, hd])⟩
        · omega
    · -- t14 False
      replace hc2 := of_decide_eq_false hc2
      obtain rfl : k = l.length := by omega
      refine JC.exit ?_
      refine JQ.thenE ?_
      refine JQ.thenE ?_
      refine JQ.blockE ?_
      refine JQ.thenN ?_
      refine JC.seq ?_
      refine JC.region ?_
      refine JL.asg ?_
      refine JL.nil ?_
      refine JQ.thenN ?_
      refine JC.ret ?_
      refine JQ.end1 (H' := []) (.inl rfl) rfl (.tmp rfl) ?_ ?_
      · exact Sub.k
      · exact congrArg Value.bool (decide_eq_true (eq_upto hlen heq)).symm

end Go.Proofs.YtopaednfjjjnbaaDoor
