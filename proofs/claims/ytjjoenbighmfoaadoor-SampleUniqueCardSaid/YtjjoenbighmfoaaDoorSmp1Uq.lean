/-
  Sizes and places: the number of ballots, a ballot's place, a place's number; in the program and in the reference.
-/
import Derived.Test.YtjjoenbighmfoaaDoorSamUq
import Derived.Test.YtjjoenbighmfoaaDoorDraw4Uq
namespace Go.Proofs.YtjjoenbighmfoaaDoor
open Go Go.RowKit
set_option maxRecDepth 100000

theorem ints_get {l : List Int} {i : Nat} {x : Int} (h : l[i]? = some x) : (ints l)[i]? = some (.int .i64 x) := by
  rw [ints, List.getElem?_map, h]
  rfl
section
variable {c : Cx} {σ : Slots} {H : Blocks} {ty : TypeId} {pos : String} {af : Array Edge} {gd : Option (Nat × Bool)} {dst : Option Nat}
end
section
variable {ss : List Int} {i j : Nat} {x : Int} {p q : Pl}
theorem allz_next (h : ∀ j x, j < i → ss[j]? = some x → 0 ≤ x ∧ x ≤ 64) (hx : ss[i]? = some x) (hv : 0 ≤ x ∧ x ≤ 64) : ∀ j x, j < i + 1 → ss[j]? = some x → 0 ≤ x ∧ x ≤ 64 := fun j y hj hy => by
  rcases Nat.lt_or_ge j i with h1 | h1
  · exact h j y h1 hy
  · obtain rfl : j = i := by omega
    rw [hx] at hy
    obtain rfl := Option.some.inj hy
    exact hv
theorem all_mem (h : ∀ j x, j < ss.length → ss[j]? = some x → 0 ≤ x ∧ x ≤ 64) : ∀ k ∈ ss, 0 ≤ k ∧ k ≤ 64 := fun k hk => by
  obtain ⟨j, hj⟩ := List.getElem?_of_mem hk
  exact h j k (List.getElem?_eq_some_iff.1 hj).1 hj
theorem sumZ_upto (h : ∀ j x, j < i → ss[j]? = some x → 0 ≤ x ∧ x ≤ 64) : 0 ≤ sumZ (ss.take i) ∧ sumZ (ss.take i) ≤ 64 * (ss.length : Int) := by
  have h1 : ∀ k ∈ ss.take i, 0 ≤ k ∧ k ≤ 64 := fun k hk => by
    obtain ⟨j, hj⟩ := List.getElem?_of_mem hk
    rw [List.getElem?_take] at hj
    split at hj
    · rename_i hlt; exact h j k hlt hj
    · cases hj
  have h2 := sumZ_nonneg fun k hk => (h1 k hk).1
  have h3 := sumZ_le h1
  rw [List.length_take] at h3
  omega
end

theorem sTotal_any (oa : Option Addr) (cap : Nat) (ss : List Int) (w : World) (hs : Cs w oa ss.length cap (ints ss)) :
    Calls Tryd.prog 16 #[.slice oa ss.length cap] w (Ret w (fun v _ => v = .tuple #[.int .i64 (totV ss), .int .i64 (mayE ss)])) := by
  refine enter (vs := [.slice oa ss.length cap]) Tryd.func16 rfl Tryd.ntmps16 rfl ?_
  refine JC.seq ?_
  refine JC.region ?_
  refine JL.asg ?_
  refine JL.asg ?_
  refine JL.nil ?_
  refine JQ.thenN ?_
  refine JC.seq ?_
  refine JC.seq ?_
  refine JC.region ?_
  refine JL.mv ?_
  refine JL.val rfl rfl rfl (.none rfl) (Ev.lenS rfl Tryd.underlying28) ?_
  refine JL.val rfl rfl rfl (.none rfl) (Ev.bin rfl rfl gtr_int) ?_
  refine JL.nil ?_
  refine JQ.thenN ?_
  refine JC.cond rfl (fun hc1 => ?_) (fun hc1 => ?_)
  · -- t8 True
    replace hc1 := of_decide_eq_true hc1
    have hgr : 16 < ss.length := by omega
    refine JC.seq ?_
    refine JC.region ?_
    refine JL.asg ?_
    refine JL.asg ?_
    refine JL.nil ?_
    refine JQ.thenN ?_
    refine JC.ret ?_
    refine JQ.thenR ?_
    refine JQ.end2 (H' := []) (.inl rfl) rfl (.tmp rfl) (.tmp rfl) ?_ ?_
    · exact Sub.k
    · rw [totV_bad (fun h => by have := h.1; omega), mayE_gr hgr]
  · -- t8 False
    replace hc1 := of_decide_eq_false hc1
    have hln : ss.length ≤ 16 := by omega
    refine JC.skip ?_
    refine JQ.thenN ?_
    refine JC.seq ?_
    refine JC.seq ?_
    refine JC.region ?_
    refine JL.mv ?_
    refine JL.val rfl rfl rfl (.none rfl) (Ev.lenS rfl Tryd.underlying28) ?_
    refine JL.mv ?_
    refine JL.nil ?_
    refine JQ.thenN ?_
    refine JC.block ?_
    refine JC.loop (X := Nat)
      (fun i => [(2, .int .i64 (sumZ (ss.take i))), (9, .slice oa ss.length cap), (10, .int .i64 (ss.length : Int)), (11, .int .i64 (i : Int))])
      (fun i => [])
      (fun i => i ≤ ss.length ∧ ∀ j x, j < i → ss[j]? = some x → 0 ≤ x ∧ x ≤ 64)
      (fun i => ss.length - i) 0 ?_ ?_ ?_ ?_
    · exact Keeps.k
    · exact Sub.nil
    · exact ⟨Nat.zero_le _, fun j x hj => by omega⟩
    rintro i ⟨hi, hall⟩
    refine JC.seq ?_
    refine JC.region ?_
    refine JL.val rfl rfl rfl (.none rfl) (Ev.bin rfl rfl lss_int) ?_
    refine JL.nil ?_
    refine JQ.thenN ?_
    refine JC.seq ?_
    refine JC.cond rfl (fun hc2 => ?_) (fun hc2 => ?_)
    · -- t12 True
      replace hc2 := of_decide_eq_true hc2
      obtain ⟨a, rfl⟩ := hs.get_some (by omega)
      obtain ⟨x, hx⟩ := get_some (l := ss) (k := i) (by omega)
      refine JC.skip ?_
      refine JQ.thenN ?_
      refine JC.seq ?_
      refine JC.block ?_
      refine JC.seq ?_
      refine JC.region ?_
      refine JL.val rfl rfl rfl (.none rfl) (Ev.idxS1 rfl rfl Tryd.underlying28 Tryd.sizeOf3 (k := i) rfl (by omega)) ?_
      refine JL.val rfl rfl rfl (.none rfl) (Ev.load1 rfl Tryd.underlying3 rfl ((Rds.old (hs.mem _ rfl)).at (k := i) (ints_get hx))) ?_
      refine JL.asg ?_
      refine JL.nil ?_
      refine JQ.thenN ?_
      refine JC.seq ?_
      refine JC.seq ?_
      refine JC.region ?_
      refine JL.mv ?_
      refine JL.val rfl rfl rfl (.none rfl) (Ev.bin rfl rfl lss_int) ?_
      refine JL.mv ?_
      refine JL.split (d := 17) rfl (fun hA => ?_) (fun hA => ?_)
      · -- guard 17 true
        have hA := of_decide_eq_true hA
        have hbad : ¬ ∀ k ∈ ss, 0 ≤ k ∧ k ≤ 64 := fun h => by have := h x (List.mem_of_getElem? hx); omega
        refine JL.skip rfl rfl (.noF rfl rfl rfl) ?_
        refine JL.skip rfl rfl (.noF rfl rfl rfl) ?_
        refine JL.val rfl rfl rfl (.none rfl) (Ev.pickT rfl rfl) ?_
        refine JL.nil ?_
        refine JQ.thenN ?_
        refine JC.condT rfl ?_
        refine JC.seq ?_
        refine JC.region ?_
        refine JL.asg ?_
        refine JL.asg ?_
        refine JL.nil ?_
        refine JQ.thenN ?_
        refine JC.ret ?_
        refine JQ.thenR ?_
        refine JQ.blockR ?_
        refine JQ.thenR ?_
        refine JQ.thenR ?_
        refine JQ.blockR ?_
        refine JQ.thenR ?_
        refine JQ.end2 (H' := []) (.inl rfl) rfl (.tmp rfl) (.tmp rfl) ?_ ?_
        · exact Sub.k
        · first | (rw [totV_bad (fun h => hbad h.2), mayE_arg hln hbad]; done) | (rw [totV_ok hok, mayE_ok hok, List.take_length]; done)
      · -- guard 17 false
        have hA := of_decide_eq_false hA
        refine JL.val rfl rfl rfl (.yes rfl rfl rfl) (Ev.move rfl) ?_
        refine JL.val rfl rfl rfl (.yes rfl rfl rfl) (Ev.bin rfl rfl gtr_int) ?_
        refine JL.val rfl rfl rfl (.none rfl) (Ev.pickF rfl rfl) ?_
        refine JL.nil ?_
        refine JQ.thenN ?_
        refine JC.cond rfl (fun hc3 => ?_) (fun hc3 => ?_)
        · -- t20 True
          replace hc3 := of_decide_eq_true hc3
          have hbad : ¬ ∀ k ∈ ss, 0 ≤ k ∧ k ≤ 64 := fun h => by have := h x (List.mem_of_getElem? hx); omega
          refine JC.seq ?_
          refine JC.region ?_
          refine JL.asg ?_
          refine JL.asg ?_
          refine JL.nil ?_
          refine JQ.thenN ?_
          refine JC.ret ?_
          refine JQ.thenR ?_
          refine JQ.blockR ?_
          refine JQ.thenR ?_
          refine JQ.thenR ?_
          refine JQ.blockR ?_
          refine JQ.thenR ?_
          refine JQ.end2 (H' := []) (.inl rfl) rfl (.tmp rfl) (.tmp rfl) ?_ ?_
          · exact Sub.k
          · first | (rw [totV_bad (fun h => hbad h.2), mayE_arg hln hbad]; done) | (rw [totV_ok hok, mayE_ok hok, List.take_length]; done)
        · -- t20 False
          replace hc3 := of_decide_eq_false hc3
          have hxv : 0 ≤ x ∧ x ≤ 64 := by omega
          have hsm := sumZ_upto hall
          have hst := sumZ_take hx
          refine JC.skip ?_
          refine JQ.thenN ?_
          refine JC.region ?_
          refine JL.mv ?_
          refine JL.mv ?_
          refine JL.val rfl rfl rfl (.none rfl) (Ev.cast (v' := .int .i64 (sumZ (ss.take (i + 1)))) (by rw [hst]) (Ev.bin rfl rfl (add_i64 (by omega)))) ?_
          refine JL.asg ?_
          refine JL.nil ?_
          refine JQ.blockN ?_
          refine JQ.thenN ?_
          refine JC.region ?_
          refine JL.val rfl rfl rfl (.none rfl) (Ev.bin rfl rfl (add_i64 (by omega))) ?_
          refine JL.mv ?_
          refine JL.nil ?_
          refine JQ.loopN (i + 1) ?_ ?_ ?_ ?_
          · exact Keeps.k
          · exact Sub.nil
          · exact ⟨by omega, allz_next hall hx hxv⟩
          · show ss.length - (i + 1) < ss.length - i; omega
    · -- t12 False
      replace hc2 := of_decide_eq_false hc2
      obtain rfl : i = ss.length := by omega
      have hok : okZ ss := ⟨hln, all_mem hall⟩
      refine JC.exit ?_
      refine JQ.thenE ?_
      refine JQ.thenE ?_
      refine JQ.blockE ?_
      refine JQ.thenN ?_
      refine JC.seq ?_
      refine JC.region ?_
      refine JL.mv ?_
      refine JL.asg ?_
      refine JL.asg ?_
      refine JL.nil ?_
      refine JQ.thenN ?_
      refine JC.ret ?_
      refine JQ.end2 (H' := []) (.inl rfl) rfl (.tmp rfl) (.tmp rfl) ?_ ?_
      · exact Sub.k
      · first | (rw [totV_bad (fun h => hbad h.2), mayE_arg hln hbad]; done) | (rw [totV_ok hok, mayE_ok hok, List.take_length]; done)

theorem pSame_any (oa ob : Option Addr) (ca cb : Nat) (l m : List Pl) (w : World) (ha : Pz w oa ca l) (hb : Pz w ob cb m) (hl : l.length ≤ 1100000) :
    Calls Tryd.prog 13 #[.slice oa l.length ca, .slice ob m.length cb] w (Ret w (fun v _ => v = .bool (decide (l = m)))) := by
  refine enter (vs := [.slice oa l.length ca, .slice ob m.length cb]) Tryd.func13 rfl Tryd.ntmps13 rfl ?_
  refine JC.seq ?_
  refine JC.region ?_
  refine JL.asg ?_
  refine JL.nil ?_
  refine JQ.thenN ?_
  refine JC.seq ?_
  refine JC.seq ?_
  refine JC.region ?_
  refine JL.mv ?_
  refine JL.val rfl rfl rfl (.none rfl) (Ev.lenS rfl Tryd.underlying22) ?_
  refine JL.mv ?_
  refine JL.val rfl rfl rfl (.none rfl) (Ev.lenS rfl Tryd.underlying22) ?_
  refine JL.val rfl rfl rfl (.none rfl) (Ev.bin rfl rfl neq_int) ?_
  refine JL.nil ?_
  refine JQ.thenN ?_
  refine JC.cond rfl (fun hc1 => ?_) (fun hc1 => ?_)
  · -- t10 True
    replace hc1 := of_decide_eq_true hc1
    have hne : l.length ≠ m.length := by omega
    refine JC.seq ?_
    refine JC.region ?_
    refine JL.asg ?_
    refine JL.nil ?_
    refine JQ.thenN ?_
    refine JC.ret ?_
    refine JQ.thenR ?_
    refine JQ.end1 (H' := []) (.inl rfl) rfl (.tmp rfl) ?_ ?_
    · exact Sub.k
    · first | exact congrArg Value.bool (decide_eq_false (fun h => hne (congrArg List.length h))).symm | exact congrArg Value.bool (decide_eq_false (fun h => hq (by rw [h, hy] at hx; exact (Option.some.inj hx).symm))).symm | exact congrArg Value.bool (decide_eq_true (eq_upto hlen heq)).symm
  · -- t10 False
    replace hc1 := of_decide_eq_false hc1
    have hlen : l.length = m.length := by omega
    refine JC.skip ?_
    refine JQ.thenN ?_
    refine JC.seq ?_
    refine JC.seq ?_
    refine JC.region ?_
    refine JL.asg ?_
    refine JL.nil ?_
    refine JQ.thenN ?_
    refine JC.block ?_
    refine JC.loop (X := Nat)
      (fun i => [(0, .slice oa l.length ca), (1, .slice ob m.length cb), (5, .int .i64 (i : Int))])
      (fun i => [])
      (fun i => i ≤ l.length ∧ ∀ j, j < i → l[j]? = m[j]?)
      (fun i => l.length - i) 0 ?_ ?_ ?_ ?_
    · exact Keeps.k
    · exact Sub.nil
    · exact ⟨Nat.zero_le _, fun j hj => by omega⟩
    rintro i ⟨hi, heq⟩
    refine JC.seq ?_
    refine JC.seq ?_
    refine JC.region ?_
    refine JL.mv ?_
    refine JL.mv ?_
    refine JL.val rfl rfl rfl (.none rfl) (Ev.lenS rfl Tryd.underlying22) ?_
    refine JL.val rfl rfl rfl (.none rfl) (Ev.bin rfl rfl lss_int) ?_
    refine JL.nil ?_
    refine JQ.thenN ?_
    refine JC.cond rfl (fun hc2 => ?_) (fun hc2 => ?_)
    · -- t14 True
      replace hc2 := of_decide_eq_true hc2
      have hin : i < l.length := by omega
      obtain ⟨a, rfl⟩ := ha.get_some (by omega)
      obtain ⟨b, rfl⟩ := hb.get_some (by omega)
      obtain ⟨x, hx⟩ := get_some hin
      obtain ⟨y, hy⟩ := get_some (l := m) (k := i) (by omega)
      refine JC.skip ?_
      refine JQ.thenN ?_
      refine JC.seq ?_
      refine JC.block ?_
      refine JC.seq ?_
      refine JC.regionQ (by kernel_rfl) (by kernel_rfl) ?_
      refine JW.val rfl rfl (.none rfl) (Ev.move rfl) ?_
      refine JW.val rfl rfl (.none rfl) (Ev.move rfl) ?_
      refine JW.val rfl rfl (.none rfl) (Ev.idxS rfl rfl Tryd.underlying22 Tryd.sizeOf27 (k := i) rfl (by omega)) ?_
      refine JW.val rfl rfl (.none rfl) (Ev.loadA (l := plc x) rfl Tryd.underlying27 rfl Tryd.sizeOf27 (Rds.old ((ha.mem _ rfl).plAt hx)) rfl) ?_
      refine JW.val rfl rfl (.none rfl) (Ev.move rfl) ?_
      refine JW.val rfl rfl (.none rfl) (Ev.move rfl) ?_
      refine JW.val rfl rfl (.none rfl) (Ev.idxS rfl rfl Tryd.underlying22 Tryd.sizeOf27 (k := i) rfl (by omega)) ?_
      refine JW.val rfl rfl (.none rfl) (Ev.loadA (l := plc y) rfl Tryd.underlying27 rfl Tryd.sizeOf27 (Rds.old ((hb.mem _ rfl).plAt hy)) rfl) ?_
      refine JW.val rfl rfl (.none rfl) (Ev.bin rfl rfl (neq_pl Tryd.underlying27 Tryd.underlying3 Tryd.underlying3 (by kernel_rfl) (by kernel_rfl) (by decide) (by decide) _ _)) ?_
      refine JW.nilQ ?_
      refine JQ.thenN ?_
      refine JC.cond rfl (fun hq => ?_) (fun hq => ?_)
      · -- t25 True
        have hq : x ≠ y := by simpa using hq
        refine JC.seq ?_
        refine JC.region ?_
        refine JL.asg ?_
        refine JL.nil ?_
        refine JQ.thenN ?_
        refine JC.ret ?_
        refine JQ.blockR ?_
        refine JQ.thenR ?_
        refine JQ.thenR ?_
        refine JQ.blockR ?_
        refine JQ.thenR ?_
        refine JQ.end1 (H' := []) (.inl rfl) rfl (.tmp rfl) ?_ ?_
        · exact Sub.k
        · first | exact congrArg Value.bool (decide_eq_false (fun h => hne (congrArg List.length h))).symm | exact congrArg Value.bool (decide_eq_false (fun h => hq (by rw [h, hy] at hx; exact (Option.some.inj hx).symm))).symm | exact congrArg Value.bool (decide_eq_true (eq_upto hlen heq)).symm
      · -- t25 False
        have hq : x = y := by simpa using hq
        refine JC.skip ?_
        refine JQ.blockN ?_
        refine JQ.thenN ?_
        refine JC.region ?_
        refine JL.mv ?_
        refine JL.val rfl rfl rfl (.none rfl) (Ev.bin rfl rfl (add_i64 (by omega))) ?_
        refine JL.asg ?_
        refine JL.nil ?_
        refine JQ.loopN (i + 1) ?_ ?_ ?_ ?_
        · exact Keeps.k
        · exact Sub.nil
        · exact ⟨by omega, all_succ heq (by rw [hx, hy, hq])⟩
        · show l.length - (i + 1) < l.length - i; omega
    · -- t14 False
      replace hc2 := of_decide_eq_false hc2
      obtain rfl : i = l.length := by omega
      refine JC.exit ?_
      refine JQ.thenE ?_
      refine JQ.thenE ?_
      refine JQ.blockE ?_
      refine JQ.thenN ?_
      refine JC.seq ?_
      refine JC.region ?_
      refine JL.asg ?_
      refine JL.nil ?_
      refine JQ.thenN ?_
      refine JC.ret ?_
      refine JQ.end1 (H' := []) (.inl rfl) rfl (.tmp rfl) ?_ ?_
      · exact Sub.k
      · first | exact congrArg Value.bool (decide_eq_false (fun h => hne (congrArg List.length h))).symm | exact congrArg Value.bool (decide_eq_false (fun h => hq (by rw [h, hy] at hx; exact (Option.some.inj hx).symm))).symm | exact congrArg Value.bool (decide_eq_true (eq_upto hlen heq)).symm

end Go.Proofs.YtjjoenbighmfoaaDoor
