/-
  The length of a path; following a path; in the reference and in the program.
-/
import Derived.Test.YtebinlinhmohbaaDoorMer3
namespace Go.Proofs.YtebinlinhmohbaaDoor
open Go Go.RowKit
set_option maxRecDepth 100000

theorem Dl.init {w : World} {oa : Option Addr} {cap : Nat} {q : List Dig} {y : Dig} (h : Dl w oa cap (q ++ [y])) : Dl w oa cap q := by
  have := Dl.take h (k := q.length) (by simp)
  rwa [List.take_left' rfl] at this
def badT (i n : Int) : Prop := n < 1 ∨ 1024 < n ∨ i < 0 ∨ n ≤ i
instance (i n : Int) : Decidable (badT i n) := inferInstanceAs (Decidable (_ ∨ _))
def plV (i n : Int) : Nat := if badT i n then 0 else stepsR i.toNat n.toNat
def plE (i n : Int) : Int := if badT i n then 2 else 0
theorem plV_bad {i n : Int} (h : badT i n) : plV i n = 0 := if_pos h
theorem plE_bad {i n : Int} (h : badT i n) : plE i n = 2 := if_pos h
theorem plV_ok {i n : Nat} (h : ¬ badT (i : Int) (n : Int)) : plV i n = stepsR i n := if_neg h
theorem plE_ok {i n : Int} (h : ¬ badT i n) : plE i n = 0 := if_neg h
def foV (x : Dig) (i n : Int) (ds : List Dig) : Dig := if badT i n then zeroD else if ds.length ≠ stepsR i.toNat n.toNat then zeroD else ledR x i.toNat n.toNat ds
def foE (i n : Int) (ds : List Dig) : Int := if badT i n then 2 else if ds.length ≠ stepsR i.toNat n.toNat then 280 else 0
section
variable {x : Dig} {ds : List Dig}
theorem foV_bad {i n : Int} (h : badT i n) : foV x i n ds = zeroD := if_pos h
theorem foE_bad {i n : Int} (h : badT i n) : foE i n ds = 2 := if_pos h
theorem foV_ne {i n : Nat} (h : ¬ badT (i : Int) (n : Int)) (h1 : ds.length ≠ stepsR i n) : foV x i n ds = zeroD := (if_neg h).trans (if_pos h1)
theorem foE_ne {i n : Nat} (h : ¬ badT (i : Int) (n : Int)) (h1 : ds.length ≠ stepsR i n) : foE i n ds = 280 := (if_neg h).trans (if_pos h1)
theorem foV_ok {i n : Nat} (h : ¬ badT (i : Int) (n : Int)) (h1 : ds.length = stepsR i n) : foV x i n ds = ledR x i n ds := (if_neg h).trans (if_neg (fun h2 => h2 h1))
theorem foE_ok {i n : Nat} (h : ¬ badT (i : Int) (n : Int)) (h1 : ds.length = stepsR i n) : foE i n ds = 0 := (if_neg h).trans (if_neg (fun h2 => h2 h1))
end
theorem turn_yes {i n : Nat} (h : decide ((i : Int) % 2 = 1) = true) : Value.agg #[.bool true, .bool (decide ((i : Int) % 2 = 1))] = .agg #[.bool (isT i n), .bool (decide (i % 2 = 1))] := by
  have h1 := of_decide_eq_true h
  have h2 : i % 2 = 1 := by omega
  have e1 : isT i n = true := decide_eq_true (.inl h2)
  rw [e1, h, decide_eq_true h2]
theorem turn_no {i n : Nat} (h : decide ((i : Int) % 2 = 1) = false) : Value.agg #[.bool (decide ((i : Int) + 1 < (n : Int))), .bool (decide ((i : Int) % 2 = 1))] = .agg #[.bool (isT i n), .bool (decide (i % 2 = 1))] := by
  have h1 := of_decide_eq_false h
  have h2 : ¬ i % 2 = 1 := by omega
  have e1 : isT i n = decide ((i : Int) + 1 < (n : Int)) := decide_eq_decide.2 (by omega)
  rw [e1, h, decide_eq_false h2]

theorem steps_any_step (N : Nat) (ih : ∀ (i : Nat) (n : Nat) (w : World) (_ : i < n) (_ : n ≤ 1024), n < N → Calls Tryd.prog 31 #[.int .i64 (i : Int), .int .i64 (n : Int)] w (Ret w (fun v _ => v = .int .i64 (stepsR i n : Int)))) (i : Nat) (n : Nat) (w : World) (hin : i < n) (hmx : n ≤ 1024) (hN : n = N) :
    Calls Tryd.prog 31 #[.int .i64 (i : Int), .int .i64 (n : Int)] w (Ret w (fun v _ => v = .int .i64 (stepsR i n : Int))) := by
  refine enter (vs := [.int .i64 (i : Int), .int .i64 (n : Int)]) Tryd.func31 rfl Tryd.ntmps31 rfl ?_
  refine JC.seq ?_
  refine JC.region ?_
  refine JL.asg ?_
  refine JL.nil ?_
  refine JQ.thenN ?_
  refine JC.seq ?_
  refine JC.seq ?_
  refine JC.region ?_
  refine JL.mv ?_
  refine JL.val rfl rfl rfl (.none rfl) (Ev.bin rfl rfl eql_int) ?_
  refine JL.nil ?_
  refine JQ.thenN ?_
  refine JC.cond rfl (fun hc1 => ?_) (fun hc1 => ?_)
  · -- t7 True
    replace hc1 := of_decide_eq_true hc1
    refine JC.seq ?_
    refine JC.region ?_
    refine JL.asg ?_
    refine JL.nil ?_
    refine JQ.thenN ?_
    refine JC.ret ?_
    refine JQ.thenR ?_
    refine JQ.end1 (H' := []) (.inl rfl) rfl (.tmp rfl) ?_ ?_
    · exact Sub.k
    · rw [stepsR_small (by omega)]; rfl
  · -- t7 False
    replace hc1 := of_decide_eq_false hc1
    have h2 : 2 ≤ n := by omega
    have hbl := bel_lt h2
    have hbp := bel_pos n
    refine JC.skip ?_
    refine JQ.thenN ?_
    refine JC.seq ?_
    refine JC.region ?_
    refine JL.mv ?_
    refine JL.callV rfl (.none rfl) rfl Tryd.call41 (fun w1 hw1 => below_any n (by omega) (by omega) w1) ?_
    refine JL.asg ?_
    refine JL.nil ?_
    refine JQ.thenN ?_
    refine JC.seq ?_
    refine JC.seq ?_
    refine JC.region ?_
    refine JL.mv ?_
    refine JL.mv ?_
    refine JL.val rfl rfl rfl (.none rfl) (Ev.bin rfl rfl lss_int) ?_
    refine JL.nil ?_
    refine JQ.thenN ?_
    refine JC.cond rfl (fun hc2 => ?_) (fun hc2 => ?_)
    · -- t12 True
      replace hc2 := of_decide_eq_true hc2
      have hl : i < bel n := by omega
      refine JC.seq ?_
      refine JC.region ?_
      refine JL.mv ?_
      refine JL.mv ?_
      refine JL.callV rfl (.none rfl) rfl Tryd.call31 (fun w1 hw1 => ih i (bel n) w1 (by omega) (by omega) (by omega)) ?_
      have hsl := stepsR_le _ i (bel n) (Nat.le_refl _)
      refine JL.val rfl rfl rfl (.none rfl) (Ev.bin rfl rfl (add_i64 (by omega))) ?_
      refine JL.asg ?_
      refine JL.nil ?_
      refine JQ.thenN ?_
      refine JC.ret ?_
      refine JQ.thenR ?_
      refine JQ.end1 (H' := []) (.inl rfl) rfl (.tmp rfl) ?_ ?_
      · exact Sub.k
      · exact congrArg (Value.int .i64) (by rw [stepsR_left h2 hl]; rfl)
    · -- t12 False
      replace hc2 := of_decide_eq_false hc2
      have hl : ¬ i < bel n := by omega
      refine JC.skip ?_
      refine JQ.thenN ?_
      refine JC.seq ?_
      refine JC.region ?_
      refine JL.mv ?_
      refine JL.mv ?_
      refine JL.val rfl rfl rfl (.none rfl) (Ev.cast (v' := .int .i64 ((i - bel n : Nat) : Int)) (congrArg (Value.int .i64) (by omega)) (Ev.bin rfl rfl (sub_i64 (by omega)))) ?_
      refine JL.mv ?_
      refine JL.mv ?_
      refine JL.val rfl rfl rfl (.none rfl) (Ev.cast (v' := .int .i64 ((n - bel n : Nat) : Int)) (congrArg (Value.int .i64) (by omega)) (Ev.bin rfl rfl (sub_i64 (by omega)))) ?_
      refine JL.callV rfl (.none rfl) rfl Tryd.call31 (fun w1 hw1 => ih (i - bel n) (n - bel n) w1 (by omega) (by omega) (by omega)) ?_
      have hsl := stepsR_le _ (i - bel n) (n - bel n) (Nat.le_refl _)
      refine JL.val rfl rfl rfl (.none rfl) (Ev.bin rfl rfl (add_i64 (by omega))) ?_
      refine JL.asg ?_
      refine JL.nil ?_
      refine JQ.thenN ?_
      refine JC.ret ?_
      refine JQ.end1 (H' := []) (.inl rfl) rfl (.tmp rfl) ?_ ?_
      · exact Sub.k
      · exact congrArg (Value.int .i64) (by rw [stepsR_right h2 hl]; rfl)
theorem steps_any (i : Nat) (n : Nat) (w : World) (hin : i < n) (hmx : n ≤ 1024) :
    Calls Tryd.prog 31 #[.int .i64 (i : Int), .int .i64 (n : Int)] w (Ret w (fun v _ => v = .int .i64 (stepsR i n : Int))) := by
  have key : ∀ (N : Nat) (i : Nat) (n : Nat) (w : World) (hin : i < n) (hmx : n ≤ 1024), n = N → Calls Tryd.prog 31 #[.int .i64 (i : Int), .int .i64 (n : Int)] w (Ret w (fun v _ => v = .int .i64 (stepsR i n : Int))) := by
    intro N
    induction N using Nat.strongRecOn with
    | _ N IH =>
      intro i n w hin hmx hN
      exact steps_any_step N (fun i n w hin hmx hlt => IH _ hlt i n w hin hmx rfl) i n w hin hmx hN
  exact key _ i n w hin hmx rfl

theorem rPathLen_any (i n : Int) (hib : -9223372036854775808 ≤ i ∧ i ≤ 9223372036854775807) (hnb : -9223372036854775808 ≤ n ∧ n ≤ 9223372036854775807) (w : World) :
    Calls Tryd.prog 13 #[.int .i64 i, .int .i64 n] w (Ret w (fun v _ => v = .tuple #[.int .i64 (plV i n : Int), .int .i64 (plE i n)])) := by
  refine enter (vs := [.int .i64 i, .int .i64 n]) Tryd.func13 rfl Tryd.ntmps13 rfl ?_
  refine JC.seq ?_
  refine JC.region ?_
  refine JL.asg ?_
  refine JL.asg ?_
  refine JL.nil ?_
  refine JQ.thenN ?_
  refine JC.seq ?_
  refine JC.seq ?_
  refine JC.region ?_
  refine JL.mv ?_
  refine JL.val rfl rfl rfl (.none rfl) (Ev.bin rfl rfl lss_int) ?_
  refine JL.mv ?_
  refine JL.split (d := 8) rfl (fun hg1 => ?_) (fun hg1 => ?_)
  · -- guard 8 true
    have hbad : badT i n := .inl (by have := of_decide_eq_true hg1; omega)
    refine JL.skip rfl rfl (.noF rfl rfl rfl) ?_
    refine JL.skip rfl rfl (.noF rfl rfl rfl) ?_
    refine JL.val rfl rfl rfl (.none rfl) (Ev.pickT rfl rfl) ?_
    refine JL.mv ?_
    refine JL.skip rfl rfl (.noF rfl rfl rfl) ?_
    refine JL.skip rfl rfl (.noF rfl rfl rfl) ?_
    refine JL.val rfl rfl rfl (.none rfl) (Ev.pickT rfl rfl) ?_
    refine JL.mv ?_
    refine JL.skip rfl rfl (.noF rfl rfl rfl) ?_
    refine JL.skip rfl rfl (.noF rfl rfl rfl) ?_
    refine JL.skip rfl rfl (.noF rfl rfl rfl) ?_
    refine JL.val rfl rfl rfl (.none rfl) (Ev.pickT rfl rfl) ?_
    refine JL.nil ?_
    refine JQ.thenN ?_
    refine JC.condT rfl ?_
    refine JC.seq ?_
    refine JC.region ?_
    refine JL.asg ?_
    refine JL.asg ?_
    refine JL.nil ?_
    refine JQ.thenN ?_
    refine JC.ret ?_
    refine JQ.thenR ?_
    refine JQ.end2 (H' := []) (.inl rfl) rfl (.tmp rfl) (.tmp rfl) ?_ ?_
    · exact Sub.k
    · rw [plV_bad hbad, plE_bad hbad]; rfl
  · -- guard 8 false
    have hg1 := of_decide_eq_false hg1
    refine JL.val rfl rfl rfl (.yes rfl rfl rfl) (Ev.move rfl) ?_
    refine JL.val rfl rfl rfl (.yes rfl rfl rfl) (Ev.bin rfl rfl gtr_int) ?_
    refine JL.val rfl rfl rfl (.none rfl) (Ev.pickF rfl rfl) ?_
    refine JL.mv ?_
    refine JL.split (d := 12) rfl (fun hg2 => ?_) (fun hg2 => ?_)
    · -- guard 12 true
      have hbad : badT i n := .inr (.inl (by have := of_decide_eq_true hg2; omega))
      refine JL.skip rfl rfl (.noF rfl rfl rfl) ?_
      refine JL.skip rfl rfl (.noF rfl rfl rfl) ?_
      refine JL.val rfl rfl rfl (.none rfl) (Ev.pickT rfl rfl) ?_
      refine JL.mv ?_
      refine JL.skip rfl rfl (.noF rfl rfl rfl) ?_
      refine JL.skip rfl rfl (.noF rfl rfl rfl) ?_
      refine JL.skip rfl rfl (.noF rfl rfl rfl) ?_
      refine JL.val rfl rfl rfl (.none rfl) (Ev.pickT rfl rfl) ?_
      refine JL.nil ?_
      refine JQ.thenN ?_
      refine JC.condT rfl ?_
      refine JC.seq ?_
      refine JC.region ?_
      refine JL.asg ?_
      refine JL.asg ?_
      refine JL.nil ?_
      refine JQ.thenN ?_
      refine JC.ret ?_
      refine JQ.thenR ?_
      refine JQ.end2 (H' := []) (.inl rfl) rfl (.tmp rfl) (.tmp rfl) ?_ ?_
      · exact Sub.k
      · rw [plV_bad hbad, plE_bad hbad]; rfl
    · -- guard 12 false
      have hg2 := of_decide_eq_false hg2
      refine JL.val rfl rfl rfl (.yes rfl rfl rfl) (Ev.move rfl) ?_
      refine JL.val rfl rfl rfl (.yes rfl rfl rfl) (Ev.bin rfl rfl lss_int) ?_
      refine JL.val rfl rfl rfl (.none rfl) (Ev.pickF rfl rfl) ?_
      refine JL.mv ?_
      refine JL.split (d := 16) rfl (fun hg3 => ?_) (fun hg3 => ?_)
      · -- guard 16 true
        have hbad : badT i n := .inr (.inr (.inl (by have := of_decide_eq_true hg3; omega)))
        refine JL.skip rfl rfl (.noF rfl rfl rfl) ?_
        refine JL.skip rfl rfl (.noF rfl rfl rfl) ?_
        refine JL.skip rfl rfl (.noF rfl rfl rfl) ?_
        refine JL.val rfl rfl rfl (.none rfl) (Ev.pickT rfl rfl) ?_
        refine JL.nil ?_
        refine JQ.thenN ?_
        refine JC.condT rfl ?_
        refine JC.seq ?_
        refine JC.region ?_
        refine JL.asg ?_
        refine JL.asg ?_
        refine JL.nil ?_
        refine JQ.thenN ?_
        refine JC.ret ?_
        refine JQ.thenR ?_
        refine JQ.end2 (H' := []) (.inl rfl) rfl (.tmp rfl) (.tmp rfl) ?_ ?_
        · exact Sub.k
        · rw [plV_bad hbad, plE_bad hbad]; rfl
      · -- guard 16 false
        have hg3 := of_decide_eq_false hg3
        refine JL.val rfl rfl rfl (.yes rfl rfl rfl) (Ev.move rfl) ?_
        refine JL.val rfl rfl rfl (.yes rfl rfl rfl) (Ev.move rfl) ?_
        refine JL.val rfl rfl rfl (.yes rfl rfl rfl) (Ev.bin rfl rfl geq_int) ?_
        refine JL.val rfl rfl rfl (.none rfl) (Ev.pickF rfl rfl) ?_
        refine JL.nil ?_
        refine JQ.thenN ?_
        refine JC.cond rfl (fun hc1 => ?_) (fun hc1 => ?_)
        · -- t20 True
          replace hc1 := of_decide_eq_true hc1
          have hbad : badT i n := .inr (.inr (.inr (by omega)))
          refine JC.seq ?_
          refine JC.region ?_
          refine JL.asg ?_
          refine JL.asg ?_
          refine JL.nil ?_
          refine JQ.thenN ?_
          refine JC.ret ?_
          refine JQ.thenR ?_
          refine JQ.end2 (H' := []) (.inl rfl) rfl (.tmp rfl) (.tmp rfl) ?_ ?_
          · exact Sub.k
          · rw [plV_bad hbad, plE_bad hbad]; rfl
        · -- t20 False
          replace hc1 := of_decide_eq_false hc1
          have hok : ¬ badT i n := by unfold badT; omega
          obtain ⟨I, rfl⟩ : ∃ m : Nat, i = (m : Int) := ⟨i.toNat, by omega⟩
          obtain ⟨N, rfl⟩ : ∃ m : Nat, n = (m : Int) := ⟨n.toNat, by omega⟩
          have hin : I < N := by omega
          refine JC.skip ?_
          refine JQ.thenN ?_
          refine JC.seq ?_
          refine JC.region ?_
          refine JL.mv ?_
          refine JL.mv ?_
          refine JL.callV rfl (.none rfl) rfl Tryd.call31 (fun w1 hw1 => steps_any I N w1 hin (by omega)) ?_
          refine JL.asg ?_
          refine JL.asg ?_
          refine JL.nil ?_
          refine JQ.thenN ?_
          refine JC.ret ?_
          refine JQ.end2 (H' := []) (.inl rfl) rfl (.tmp rfl) (.tmp rfl) ?_ ?_
          · exact Sub.k
          · rw [plV_ok hok, plE_ok hok]

theorem led_any_step (N : Nat) (ih : ∀ (x : Dig) (i : Nat) (n : Nat) (oa : Option Addr) (cap : Nat) (ds : List Dig) (w : World) (_ : i < n) (_ : n ≤ 1024) (_ : Dl w oa cap ds) (_ : ds.length = stepsR i n), n < N → Calls Tryd.prog 32 #[.agg (arr8 x.1), .int .i64 (i : Int), .int .i64 (n : Int), .slice oa ds.length cap] w (Ret w (fun v _ => v = .agg (arr8 (ledR x i n ds).1)))) (x : Dig) (i : Nat) (n : Nat) (oa : Option Addr) (cap : Nat) (ds : List Dig) (w : World) (hin : i < n) (hmx : n ≤ 1024) (hd : Dl w oa cap ds) (hst : ds.length = stepsR i n) (hN : n = N) :
    Calls Tryd.prog 32 #[.agg (arr8 x.1), .int .i64 (i : Int), .int .i64 (n : Int), .slice oa ds.length cap] w (Ret w (fun v _ => v = .agg (arr8 (ledR x i n ds).1))) := by
  refine enter (vs := [.agg (arr8 x.1), .int .i64 (i : Int), .int .i64 (n : Int), .slice oa ds.length cap]) Tryd.func32 rfl Tryd.ntmps32 rfl ?_
  refine JC.seq ?_
  refine JC.region ?_
  refine JL.new rfl rfl rfl (.none rfl) (En.boxA rfl) (fun b4 hb4 => ?_)
  refine JL.new rfl rfl rfl (.none rfl) (En.allocZ (cs := arr8 (List.replicate 32 0)) Tryd.zeroValue22 rfl) (fun b8 hb8 => ?_)
  refine JL.nil ?_
  refine JQ.thenN ?_
  refine JC.seq ?_
  refine JC.seq ?_
  refine JC.region ?_
  refine JL.mv ?_
  refine JL.val rfl rfl rfl (.none rfl) (Ev.bin rfl rfl eql_int) ?_
  refine JL.nil ?_
  refine JQ.thenN ?_
  refine JC.cond rfl (fun hc1 => ?_) (fun hc1 => ?_)
  · -- t12 True
    replace hc1 := of_decide_eq_true hc1
    refine JC.seq ?_
    refine JC.region ?_
    refine JL.val rfl rfl rfl (.none rfl) (Ev.lB Tryd.underlying22 Tryd.sizeOf22) ?_
    refine JL.sto rfl rfl (.none rfl) (Es.sA Tryd.sizeOf22) ?_
    refine JL.nil ?_
    refine JQ.thenN ?_
    refine JC.ret ?_
    refine JQ.thenR ?_
    refine JQ.end1 (H' := []) (.inl rfl) rfl (.agg rfl memK Tryd.underlying22 rfl Tryd.sizeOf22 szK) ?_ ?_
    · exact Sub.k
    · rw [ledR_small (by omega)]
  · -- t12 False
    replace hc1 := of_decide_eq_false hc1
    have h2 : 2 ≤ n := by omega
    have hbl := bel_lt h2
    have hbp := bel_pos n
    obtain ⟨q, y, rfl, hq⟩ : ∃ q y, ds = q ++ [y] ∧ q.length + 1 = stepsR i n := by have hs := stepsR_split (i := i) h2; obtain ⟨q, y, h3, h4⟩ := ends_ex (p := ds) (k := stepsR i n - 1) (by split at hs <;> omega); exact ⟨q, y, h3, by split at hs <;> omega⟩
    have hql : (q ++ [y]).length = q.length + 1 := by simp
    have hle := hd.le
    have hsl := stepsR_le n i n (Nat.le_refl _)
    obtain ⟨a, rfl⟩ := Cs.get_some hd (by omega)
    have hy0 : (q ++ [y])[q.length]? = some y := by simp
    refine JC.skip ?_
    refine JQ.thenN ?_
    refine JC.seq ?_
    refine JC.region ?_
    refine JL.mv ?_
    refine JL.callV rfl (.none rfl) rfl Tryd.call41 (fun w1 hw1 => below_any n (by omega) (by omega) w1) ?_
    refine JL.asg ?_
    refine JL.nil ?_
    refine JQ.thenN ?_
    refine JC.seq ?_
    refine JC.region ?_
    refine JL.mv ?_
    refine JL.mv ?_
    refine JL.val rfl rfl rfl (.none rfl) (Ev.lenS rfl Tryd.underlying23) ?_
    refine JL.val rfl rfl rfl (.none rfl) (Ev.bin rfl rfl (sub_i64 (by omega))) ?_
    refine JL.val rfl rfl rfl (.none rfl) (Ev.idxS rfl rfl Tryd.underlying23 Tryd.sizeOf22 (k := q.length) (by omega) (by omega)) ?_
    refine JL.val rfl rfl rfl (.none rfl) (Ev.loadD rfl Tryd.underlying22 rfl Tryd.sizeOf22 (Rds.old ((hd.mem a rfl).atD hy0))) ?_
    refine JL.new rfl rfl rfl (.none rfl) (En.allocZ (cs := arr8 (List.replicate 32 0)) Tryd.zeroValue22 rfl) (fun b10 hb10 => ?_)
    refine JL.sto rfl rfl (.none rfl) (Es.sA Tryd.sizeOf22) ?_
    refine JL.nil ?_
    refine JQ.thenN ?_
    refine JC.seq ?_
    refine JC.seq ?_
    refine JC.region ?_
    refine JL.mv ?_
    refine JL.mv ?_
    refine JL.val rfl rfl rfl (.none rfl) (Ev.bin rfl rfl lss_int) ?_
    refine JL.nil ?_
    refine JQ.thenN ?_
    refine JC.cond rfl (fun hc2 => ?_) (fun hc2 => ?_)
    · -- t24 True
      replace hc2 := of_decide_eq_true hc2
      have hl : i < bel n := by omega
      have hsq : q.length = stepsR i (bel n) := by have := stepsR_left h2 hl; omega
      refine JC.seq ?_
      refine JC.regionT 11 (by kernel_rfl) (by kernel_rfl) (List.take_append_drop 11 _).symm rfl ?_
      refine JW.val rfl rfl (.none rfl) (Ev.lB Tryd.underlying22 Tryd.sizeOf22) ?_
      refine JW.val rfl rfl (.none rfl) (Ev.move rfl) ?_
      refine JW.val rfl rfl (.none rfl) (Ev.move rfl) ?_
      refine JW.val rfl rfl (.none rfl) (Ev.move rfl) ?_
      refine JW.val rfl rfl (.none rfl) (Ev.move rfl) ?_
      refine JW.val rfl rfl (.none rfl) (Ev.lenS rfl Tryd.underlying23) ?_
      refine JW.val rfl rfl (.none rfl) (Ev.bin rfl rfl (sub_i64 (by omega))) ?_
      refine JW.val rfl rfl (.none rfl) (Ev.cast (v' := .slice (some a) q.length cap) (sub3_0) (Ev.sliceHi rfl rfl Tryd.underlying23 Tryd.sizeOf22 (h := q.length) (by omega) (by have := hd.le; omega))) ?_
      refine JW.call rfl (.none rfl) rfl Tryd.call32 (fun w1 hw1 => ih x i (bel n) (some a) cap q w1 (by omega) (by omega) (Dl.init (hd.old hw1)) hsq (by omega)) ?_
      refine JW.val rfl rfl (.none rfl) (Ev.lB Tryd.underlying22 Tryd.sizeOf22) ?_
      refine JW.call rfl (.none rfl) rfl Tryd.call42 (fun w1 hw1 => rNodeG_any _ _ w1) ?_
      refine JW.tail ?_
      refine JL.sto rfl rfl (.none rfl) (Es.sA Tryd.sizeOf22) ?_
      refine JL.nil ?_
      refine JQ.thenN ?_
      refine JC.ret ?_
      refine JQ.thenR ?_
      refine JQ.end1 (H' := []) (.inl rfl) rfl (.agg rfl memK Tryd.underlying22 rfl Tryd.sizeOf22 szK) ?_ ?_
      · exact Sub.k
      · rw [ledR_left h2 hl]
    · -- t24 False
      replace hc2 := of_decide_eq_false hc2
      have hl : ¬ i < bel n := by omega
      have hsq : q.length = stepsR (i - bel n) (n - bel n) := by have := stepsR_right h2 hl; omega
      refine JC.skip ?_
      refine JQ.thenN ?_
      refine JC.seq ?_
      refine JC.regionT 15 (by kernel_rfl) (by kernel_rfl) (List.take_append_drop 15 _).symm rfl ?_
      refine JW.val rfl rfl (.none rfl) (Ev.lB Tryd.underlying22 Tryd.sizeOf22) ?_
      refine JW.val rfl rfl (.none rfl) (Ev.lB Tryd.underlying22 Tryd.sizeOf22) ?_
      refine JW.val rfl rfl (.none rfl) (Ev.move rfl) ?_
      refine JW.val rfl rfl (.none rfl) (Ev.move rfl) ?_
      refine JW.val rfl rfl (.none rfl) (Ev.cast (v' := .int .i64 ((i - bel n : Nat) : Int)) (congrArg (Value.int .i64) (by omega)) (Ev.bin rfl rfl (sub_i64 (by omega)))) ?_
      refine JW.val rfl rfl (.none rfl) (Ev.move rfl) ?_
      refine JW.val rfl rfl (.none rfl) (Ev.move rfl) ?_
      refine JW.val rfl rfl (.none rfl) (Ev.cast (v' := .int .i64 ((n - bel n : Nat) : Int)) (congrArg (Value.int .i64) (by omega)) (Ev.bin rfl rfl (sub_i64 (by omega)))) ?_
      refine JW.val rfl rfl (.none rfl) (Ev.move rfl) ?_
      refine JW.val rfl rfl (.none rfl) (Ev.move rfl) ?_
      refine JW.val rfl rfl (.none rfl) (Ev.lenS rfl Tryd.underlying23) ?_
      refine JW.val rfl rfl (.none rfl) (Ev.bin rfl rfl (sub_i64 (by omega))) ?_
      refine JW.val rfl rfl (.none rfl) (Ev.cast (v' := .slice (some a) q.length cap) (sub3_0) (Ev.sliceHi rfl rfl Tryd.underlying23 Tryd.sizeOf22 (h := q.length) (by omega) (by have := hd.le; omega))) ?_
      refine JW.call rfl (.none rfl) rfl Tryd.call32 (fun w1 hw1 => ih x (i - bel n) (n - bel n) (some a) cap q w1 (by omega) (by omega) (Dl.init (hd.old hw1)) hsq (by omega)) ?_
      refine JW.call rfl (.none rfl) rfl Tryd.call42 (fun w1 hw1 => rNodeG_any _ _ w1) ?_
      refine JW.tail ?_
      refine JL.sto rfl rfl (.none rfl) (Es.sA Tryd.sizeOf22) ?_
      refine JL.nil ?_
      refine JQ.thenN ?_
      refine JC.ret ?_
      refine JQ.end1 (H' := []) (.inl rfl) rfl (.agg rfl memK Tryd.underlying22 rfl Tryd.sizeOf22 szK) ?_ ?_
      · exact Sub.k
      · rw [ledR_right h2 hl]
theorem led_any (x : Dig) (i : Nat) (n : Nat) (oa : Option Addr) (cap : Nat) (ds : List Dig) (w : World) (hin : i < n) (hmx : n ≤ 1024) (hd : Dl w oa cap ds) (hst : ds.length = stepsR i n) :
    Calls Tryd.prog 32 #[.agg (arr8 x.1), .int .i64 (i : Int), .int .i64 (n : Int), .slice oa ds.length cap] w (Ret w (fun v _ => v = .agg (arr8 (ledR x i n ds).1))) := by
  have key : ∀ (N : Nat) (x : Dig) (i : Nat) (n : Nat) (oa : Option Addr) (cap : Nat) (ds : List Dig) (w : World) (hin : i < n) (hmx : n ≤ 1024) (hd : Dl w oa cap ds) (hst : ds.length = stepsR i n), n = N → Calls Tryd.prog 32 #[.agg (arr8 x.1), .int .i64 (i : Int), .int .i64 (n : Int), .slice oa ds.length cap] w (Ret w (fun v _ => v = .agg (arr8 (ledR x i n ds).1))) := by
    intro N
    induction N using Nat.strongRecOn with
    | _ N IH =>
      intro x i n oa cap ds w hin hmx hd hst hN
      exact led_any_step N (fun x i n oa cap ds w hin hmx hd hst hlt => IH _ hlt x i n oa cap ds w hin hmx hd hst rfl) x i n oa cap ds w hin hmx hd hst hN
  exact key _ x i n oa cap ds w hin hmx hd hst rfl

theorem rFollow_any (x : Dig) (i n : Int) (hib : -9223372036854775808 ≤ i ∧ i ≤ 9223372036854775807) (hnb : -9223372036854775808 ≤ n ∧ n ≤ 9223372036854775807) (oa : Option Addr) (cap : Nat) (ds : List Dig) (w : World) (hd : Dl w oa cap ds) :
    Calls Tryd.prog 15 #[.agg (arr8 x.1), .int .i64 i, .int .i64 n, .slice oa ds.length cap] w (Ret w (fun v _ => v = .tuple #[.agg (arr8 (foV x i n ds).1), .int .i64 (foE i n ds)])) := by
  refine enter (vs := [.agg (arr8 x.1), .int .i64 i, .int .i64 n, .slice oa ds.length cap]) Tryd.func15 rfl Tryd.ntmps15 rfl ?_
  refine JC.seq ?_
  refine JC.region ?_
  refine JL.new rfl rfl rfl (.none rfl) (En.boxA rfl) (fun b4 hb4 => ?_)
  refine JL.new rfl rfl rfl (.none rfl) (En.allocZ (cs := arr8 (List.replicate 32 0)) Tryd.zeroValue22 rfl) (fun b8 hb8 => ?_)
  refine JL.asg ?_
  refine JL.nil ?_
  refine JQ.thenN ?_
  refine JC.seq ?_
  refine JC.region ?_
  refine JL.mv ?_
  refine JL.mv ?_
  refine JL.callV rfl (.none rfl) rfl Tryd.call13 (fun w1 hw1 => rPathLen_any i n hib hnb w1) ?_
  refine JL.mv ?_
  refine JL.val rfl rfl rfl (.none rfl) (Ev.ex0 rfl) ?_
  refine JL.val rfl rfl rfl (.none rfl) (Ev.ex1 rfl) ?_
  refine JL.asg ?_
  refine JL.asg ?_
  refine JL.nil ?_
  refine JQ.thenN ?_
  refine JC.seq ?_
  refine JC.seq ?_
  refine JC.region ?_
  refine JL.mv ?_
  refine JL.val rfl rfl rfl (.none rfl) (Ev.bin rfl rfl neq_int) ?_
  refine JL.nil ?_
  refine JQ.thenN ?_
  refine JC.cond rfl (fun hc1 => ?_) (fun hc1 => ?_)
  · -- t19 True
    have hbad : badT i n := Classical.byContradiction fun h => by rw [plE_ok h] at hc1; simp at hc1
    refine JC.seq ?_
    refine JC.region ?_
    refine JL.val rfl rfl rfl (.none rfl) (Ev.bu0 Tryd.underlying22 Tryd.sizeOf5 Tryd.zeroValue22) ?_
    refine JL.mv ?_
    refine JL.sto rfl rfl (.none rfl) (Es.sA Tryd.sizeOf22) ?_
    refine JL.asg ?_
    refine JL.nil ?_
    refine JQ.thenN ?_
    refine JC.ret ?_
    refine JQ.thenR ?_
    refine JQ.end2 (H' := []) (.inl rfl) rfl (.agg rfl memK Tryd.underlying22 rfl Tryd.sizeOf22 szK) (.tmp rfl) ?_ ?_
    · exact Sub.k
    · rw [foV_bad hbad, foE_bad hbad, plE_bad hbad]; rfl
  · -- t19 False
    have hok : ¬ badT i n := fun h => by rw [plE_bad h] at hc1; simp at hc1
    have hbd := hok
    unfold badT at hbd
    obtain ⟨I, rfl⟩ : ∃ m : Nat, i = (m : Int) := ⟨i.toNat, by omega⟩
    obtain ⟨N, rfl⟩ : ∃ m : Nat, n = (m : Int) := ⟨n.toNat, by omega⟩
    have hin : I < N ∧ N ≤ 1024 := by omega
    refine JC.skip ?_
    refine JQ.thenN ?_
    refine JC.seq ?_
    refine JC.seq ?_
    refine JC.region ?_
    refine JL.mv ?_
    refine JL.val rfl rfl rfl (.none rfl) (Ev.lenS rfl Tryd.underlying23) ?_
    refine JL.mv ?_
    refine JL.val rfl rfl rfl (.none rfl) (Ev.bin rfl rfl neq_int) ?_
    refine JL.nil ?_
    refine JQ.thenN ?_
    refine JC.cond rfl (fun hc2 => ?_) (fun hc2 => ?_)
    · -- t25 True
      have hne : ds.length ≠ stepsR I N := fun h => by rw [plV_ok hok, ← h] at hc2; simp at hc2
      refine JC.seq ?_
      refine JC.region ?_
      refine JL.val rfl rfl rfl (.none rfl) (Ev.bu0 Tryd.underlying22 Tryd.sizeOf5 Tryd.zeroValue22) ?_
      refine JL.sto rfl rfl (.none rfl) (Es.sA Tryd.sizeOf22) ?_
      refine JL.asg ?_
      refine JL.nil ?_
      refine JQ.thenN ?_
      refine JC.ret ?_
      refine JQ.thenR ?_
      refine JQ.end2 (H' := []) (.inl rfl) rfl (.agg rfl memK Tryd.underlying22 rfl Tryd.sizeOf22 szK) (.tmp rfl) ?_ ?_
      · exact Sub.k
      · rw [foV_ne hok hne, foE_ne hok hne]; rfl
    · -- t25 False
      have heq : ds.length = stepsR I N := Classical.byContradiction fun h => by rw [plV_ok hok] at hc2; have := of_decide_eq_false hc2; omega
      refine JC.skip ?_
      refine JQ.thenN ?_
      refine JC.seq ?_
      refine JC.region ?_
      refine JL.val rfl rfl rfl (.none rfl) (Ev.lB Tryd.underlying22 Tryd.sizeOf22) ?_
      refine JL.mv ?_
      refine JL.mv ?_
      refine JL.mv ?_
      refine JL.callV rfl (.none rfl) rfl Tryd.call32 (fun w1 hw1 => led_any x I N oa cap ds w1 hin.1 hin.2 (hd.old hw1) heq) ?_
      refine JL.sto rfl rfl (.none rfl) (Es.sA Tryd.sizeOf22) ?_
      refine JL.asg ?_
      refine JL.nil ?_
      refine JQ.thenN ?_
      refine JC.ret ?_
      refine JQ.end2 (H' := []) (.inl rfl) rfl (.agg rfl memK Tryd.underlying22 rfl Tryd.sizeOf22 szK) (.tmp rfl) ?_ ?_
      · exact Sub.k
      · rw [foV_ok hok heq, foE_ok hok heq]

theorem turns_any (i n : Int) (w : World) :
    Calls Tryd.prog 30 #[.int .i64 i, .int .i64 n] w (Ret w (fun v H => ∃ bn bi, v = .func (.func 40) #[] #[.pointer (some ⟨bn, 0, none⟩), .pointer (some ⟨bi, 0, none⟩)] ∧ H = [(bn, .cells #[.int .i64 n] 3 (0, 0)), (bi, .cells #[.int .i64 i] 3 (0, 0))])) := by
  refine enter (vs := [.int .i64 i, .int .i64 n]) Tryd.func30 rfl Tryd.ntmps30 rfl ?_
  refine JC.seq ?_
  refine JC.region ?_
  refine JL.new rfl rfl rfl (.none rfl) (En.box1 rfl rfl) (fun b2 hb2 => ?_)
  refine JL.new rfl rfl rfl (.none rfl) (En.box1 rfl rfl) (fun b3 hb3 => ?_)
  refine JL.asg ?_
  refine JL.nil ?_
  refine JQ.thenN ?_
  refine JC.seq ?_
  refine JC.region ?_
  refine JL.val rfl rfl rfl (.none rfl) (Ev.makeFunc rfl) ?_
  refine JL.asg ?_
  refine JL.nil ?_
  refine JQ.thenN ?_
  refine JC.ret ?_
  refine JQ.end1 (H' := [(b3, .cells #[.int .i64 n] 3 (0, 0)), (b2, .cells #[.int .i64 i] 3 (0, 0))]) (.inl rfl) rfl (.tmp rfl) ?_ ?_
  · exact Sub.k
  · exact ⟨b3, b2, rfl, rfl⟩

theorem turnsI_any (i n : Nat) (hin : i < n) (hmx : n ≤ 1024) (bn bi : Nat) (X : Type) (A : X → Blocks) (Inv : Nat → X → Prop) (Z : Blocks → Prop) (l : Nat) (x0 : X) (w0 w : World) (hi : Inv 0 x0) (hw : Hp w0 ([(bn, Obj.cells #[.int .i64 ((n : Nat) : Int)] 3 (0, 0)), (bi, Obj.cells #[.int .i64 ((i : Nat) : Int)] 3 (0, 0))] ++ A x0) w) (hy : ∀ k x vs O w1, k < lg n → Inv k x → (fun k vs _ => vs = [Value.agg #[.bool (isT (dv i k) (hn n k)), .bool (decide ((dv i k) % 2 = 1))]]) k vs O → Hp w0 (O ++ A x) w1 → YieldOk Tryd.prog l vs.toArray w1 (fun e w' => (∃ x', Inv (k + 1) x' ∧ e = .returned (.bool true) ∧ Hp w0 (O ++ A x') w') ∨ (∃ B, Z B ∧ e = .returned (.bool false) ∧ Hp w0 (O ++ B) w'))) :
    Calls Tryd.prog 40 #[.func (.yield l) #[] #[], .pointer (some ⟨bn, 0, none⟩), .pointer (some ⟨bi, 0, none⟩)] w (Ret w0 (fun _ H' => (∃ x O, Inv (lg n) x ∧ H' = O ++ A x) ∨ (∃ B O, Z B ∧ H' = O ++ B))) := by
  refine enterAt (vs := [.func (.yield l) #[] #[], .pointer (some ⟨bn, 0, none⟩), .pointer (some ⟨bi, 0, none⟩)]) Tryd.func40 rfl Tryd.ntmps40 rfl hw ?_
  refine JC.block ?_
  refine JC.loop (X := Nat × X)
    (fun ⟨k, x⟩ => [(0, .func (.yield l) #[] #[]), (1, .pointer (some ⟨bn, 0, none⟩)), (2, .pointer (some ⟨bi, 0, none⟩))])
    (fun ⟨k, x⟩ => [(bn, Obj.cells #[.int .i64 ((hn n k : Nat) : Int)] 3 (0, 0)), (bi, Obj.cells #[.int .i64 ((dv i k : Nat) : Int)] 3 (0, 0))] ++ A x)
    (fun ⟨k, x⟩ => k ≤ lg n ∧ Inv k x)
    (fun ⟨k, x⟩ => lg n - k) (0, x0) ?_ ?_ ?_ ?_
  · exact Keeps.k
  · exact Sub.all
  · exact ⟨Nat.zero_le _, hi⟩
  rintro ⟨k, x⟩ ⟨hkk, hix⟩
  refine JC.seq ?_
  refine JC.seq ?_
  refine JC.region ?_
  refine JL.val rfl rfl rfl (.none rfl) (Ev.load1 rfl Tryd.underlying3 rfl (Rd.own memK rfl)) ?_
  refine JL.val rfl rfl rfl (.none rfl) (Ev.bin rfl rfl gtr_int) ?_
  refine JL.nil ?_
  refine JQ.thenN ?_
  refine JC.cond rfl (fun hc1 => ?_) (fun hc1 => ?_)
  · -- t5 True
    replace hc1 := of_decide_eq_true hc1
    have hkl : k < lg n := lg_of (by omega) hkk
    have hle := hn_le n (by omega) k
    have hlt := dv_lt hin k
    refine JC.skip ?_
    refine JQ.thenN ?_
    refine JC.seq ?_
    refine JC.block ?_
    refine JC.seq ?_
    refine JC.region ?_
    refine JL.mv ?_
    refine JL.val rfl rfl rfl (.none rfl) (Ev.load1 rfl Tryd.underlying3 rfl (Rd.own memK rfl)) ?_
    refine JL.val rfl rfl rfl (.none rfl) (Ev.bin rfl rfl (rem_i64 (by omega))) ?_
    refine JL.val rfl rfl rfl (.none rfl) (Ev.bin rfl rfl eql_int) ?_
    refine JL.mv ?_
    refine JL.split (d := 15) rfl (fun hg1 => ?_) (fun hg1 => ?_)
    · -- guard 15 true
      refine JL.skip rfl rfl (.noF rfl rfl rfl) ?_
      refine JL.skip rfl rfl (.noF rfl rfl rfl) ?_
      refine JL.skip rfl rfl (.noF rfl rfl rfl) ?_
      refine JL.skip rfl rfl (.noF rfl rfl rfl) ?_
      refine JL.val rfl rfl rfl (.none rfl) (Ev.pickT rfl rfl) ?_
      refine JL.val rfl rfl rfl (.none rfl) (Ev.load1 rfl Tryd.underlying3 rfl (Rd.own memK rfl)) ?_
      refine JL.val rfl rfl rfl (.none rfl) (Ev.bin rfl rfl (rem_i64 (by omega))) ?_
      refine JL.val rfl rfl rfl (.none rfl) (Ev.bin rfl rfl eql_int) ?_
      refine JL.val rfl rfl rfl (.none rfl) (Ev.buN rfl (fun _ => by kernel_rfl)) ?_
      refine JL.re (d := 24) (v' := Value.agg #[.bool (isT (dv i k) (hn n k)), .bool (decide ((dv i k) % 2 = 1))]) rfl (by first | exact turn_yes hg1 | exact turn_no hg1) ?_
      refine JL.yieldG rfl rfl (.none rfl) rfl rfl (fun w1 hw1 => hy k x _ [(bn, Obj.cells #[.int .i64 ((hn n k : Nat) : Int)] 3 (0, 0)), (bi, Obj.cells #[.int .i64 ((dv i k : Nat) : Int)] 3 (0, 0))] w1 hkl hix rfl (by simpa using hw1)) ?_ ?_
      · -- yield true
        rintro x2 hi2
        refine JL.val rfl rfl rfl (.none rfl) (Ev.not rfl) ?_
        refine JL.nil ?_
        refine JQ.thenN ?_
        refine JC.condF rfl ?_
        refine JC.skip ?_
        refine JQ.blockN ?_
        refine JQ.thenN ?_
        refine JC.cut (X := Unit) (fun _ => [(0, .func (.yield l) #[] #[]), (1, .pointer (some ⟨bn, 0, none⟩)), (2, .pointer (some ⟨bi, 0, none⟩))]) (fun _ => [(bn, Obj.cells #[.int .i64 ((((hn n k : Nat) : Int) + 1) / 2)] 3 (0, 0)), (bi, Obj.cells #[.int .i64 (((dv i k : Nat) : Int) / 2)] 3 (0, 0))] ++ A x2) ?_ ?_
        · refine JC.regionA (by kernel_rfl) ?_
          refine JA.branch [0, 2] (by kernel_rfl) rfl ?_
          refine JAll.cons rfl ?_ ?_
          · -- 0
            refine JO.val rfl rfl rfl (.none rfl) (Ev.load1 rfl Tryd.underlying3 rfl (Rd.own memK rfl)) ?_
            refine JA.tkc 1 rfl (.none rfl) (fun _ => (Ev.bin rfl rfl (quo_i64 (by omega)))) ?_
            refine JA.branch [2, 5] (by kernel_rfl) rfl ?_
            refine JAll.cons rfl ?_ ?_
            · -- 2
              refine JO.val rfl rfl rfl (.none rfl) (Ev.load1 rfl Tryd.underlying3 rfl (Rd.own memK rfl)) ?_
              refine JA.tkc 3 rfl (.none rfl) (fun _ => (Ev.bin rfl rfl (add_i64 (by omega)))) ?_
              refine JA.tkc 4 rfl (.none rfl) (fun _ => (Ev.bin rfl rfl (quo_i64 (by omega)))) ?_
              refine JA.one 5 ?_
              refine JO.sto rfl rfl (.none rfl) (Es.store0 rfl rfl Tryd.sizeOf3 rfl rfl Upd.k) ?_
              refine JA.one 6 ?_
              refine JO.sto rfl rfl (.none rfl) (Es.store0 rfl rfl Tryd.sizeOf3 rfl rfl Upd.k) ?_
              refine JA.done (by kernel_rfl) ?_
              refine JQ.cutN () ?_ ?_
              · exact Keeps.k
              · exact Sub.k
            refine JAll.cons rfl ?_ JAll.nil
            refine JO.sto rfl rfl (.none rfl) (Es.store0 rfl rfl Tryd.sizeOf3 rfl rfl Upd.k) ?_
            refine JA.one 2 ?_
            refine JO.val rfl rfl rfl (.none rfl) (Ev.load1 rfl Tryd.underlying3 rfl (Rd.own memK rfl)) ?_
            refine JA.tkc 3 rfl (.none rfl) (fun _ => (Ev.bin rfl rfl (add_i64 (by omega)))) ?_
            refine JA.tkc 4 rfl (.none rfl) (fun _ => (Ev.bin rfl rfl (quo_i64 (by omega)))) ?_
            refine JA.one 6 ?_
            refine JO.sto rfl rfl (.none rfl) (Es.store0 rfl rfl Tryd.sizeOf3 rfl rfl Upd.k) ?_
            refine JA.done (by kernel_rfl) ?_
            refine JQ.cutN () ?_ ?_
            · exact Keeps.k
            · exact Sub.k
          refine JAll.cons rfl ?_ JAll.nil
          refine JO.val rfl rfl rfl (.none rfl) (Ev.load1 rfl Tryd.underlying3 rfl (Rd.own memK rfl)) ?_
          refine JA.tkc 3 rfl (.none rfl) (fun _ => (Ev.bin rfl rfl (add_i64 (by omega)))) ?_
          refine JA.tkc 4 rfl (.none rfl) (fun _ => (Ev.bin rfl rfl (quo_i64 (by omega)))) ?_
          refine JA.one 0 ?_
          refine JO.val rfl rfl rfl (.none rfl) (Ev.load1 rfl Tryd.underlying3 rfl (Rd.own memK rfl)) ?_
          refine JA.tkc 1 rfl (.none rfl) (fun _ => (Ev.bin rfl rfl (quo_i64 (by omega)))) ?_
          refine JA.one 5 ?_
          refine JO.sto rfl rfl (.none rfl) (Es.store0 rfl rfl Tryd.sizeOf3 rfl rfl Upd.k) ?_
          refine JA.one 6 ?_
          refine JO.sto rfl rfl (.none rfl) (Es.store0 rfl rfl Tryd.sizeOf3 rfl rfl Upd.k) ?_
          refine JA.done (by kernel_rfl) ?_
          refine JQ.cutN () ?_ ?_
          · exact Keeps.k
          · exact Sub.k
        rintro _
        refine JQ.reH (b := bi) (o' := Obj.cells #[.int .i64 ((dv i (k + 1) : Nat) : Int)] 3 (0, 0)) Upd.k (congrArg (fun x => Obj.cells #[Value.int .i64 x] 3 (0, 0)) (by rw [dv_succ]; omega)) ?_
        refine JQ.reH (b := bn) (o' := Obj.cells #[.int .i64 ((hn n (k + 1) : Nat) : Int)] 3 (0, 0)) Upd.k (congrArg (fun x => Obj.cells #[Value.int .i64 x] 3 (0, 0)) (by rw [hn_succ]; omega)) ?_
        refine JQ.loopN (k + 1, x2) ?_ ?_ ?_ ?_
        · exact Keeps.k
        · exact Sub.all
        · exact ⟨by omega, hi2⟩
        · show lg n - (k + 1) < lg n - k; omega
      · -- yield false
        rintro B hz
        refine JL.val rfl rfl rfl (.none rfl) (Ev.not rfl) ?_
        refine JL.nil ?_
        refine JQ.thenN ?_
        refine JC.condT rfl ?_
        refine JC.ret ?_
        refine JQ.blockR ?_
        refine JQ.thenR ?_
        refine JQ.thenR ?_
        refine JQ.blockR ?_
        refine JQ.end0 (H' := ([(bn, Obj.cells #[.int .i64 ((hn n k : Nat) : Int)] 3 (0, 0)), (bi, Obj.cells #[.int .i64 ((dv i k : Nat) : Int)] 3 (0, 0))] ++ B)) (.inl rfl) rfl  ?_ ?_
        · exact Sub.all
        · exact .inr ⟨B, _, hz, rfl⟩
    · -- guard 15 false
      refine JL.val rfl rfl rfl (.yes rfl rfl rfl) (Ev.load1 rfl Tryd.underlying3 rfl (Rd.own memK rfl)) ?_
      refine JL.val rfl rfl rfl (.yes rfl rfl rfl) (Ev.bin rfl rfl (add_i64 (by omega))) ?_
      refine JL.val rfl rfl rfl (.yes rfl rfl rfl) (Ev.load1 rfl Tryd.underlying3 rfl (Rd.own memK rfl)) ?_
      refine JL.val rfl rfl rfl (.yes rfl rfl rfl) (Ev.bin rfl rfl lss_int) ?_
      refine JL.val rfl rfl rfl (.none rfl) (Ev.pickF rfl rfl) ?_
      refine JL.val rfl rfl rfl (.none rfl) (Ev.load1 rfl Tryd.underlying3 rfl (Rd.own memK rfl)) ?_
      refine JL.val rfl rfl rfl (.none rfl) (Ev.bin rfl rfl (rem_i64 (by omega))) ?_
      refine JL.val rfl rfl rfl (.none rfl) (Ev.bin rfl rfl eql_int) ?_
      refine JL.val rfl rfl rfl (.none rfl) (Ev.buN rfl (fun _ => by kernel_rfl)) ?_
      refine JL.re (d := 24) (v' := Value.agg #[.bool (isT (dv i k) (hn n k)), .bool (decide ((dv i k) % 2 = 1))]) rfl (by first | exact turn_yes hg1 | exact turn_no hg1) ?_
      refine JL.yieldG rfl rfl (.none rfl) rfl rfl (fun w1 hw1 => hy k x _ [(bn, Obj.cells #[.int .i64 ((hn n k : Nat) : Int)] 3 (0, 0)), (bi, Obj.cells #[.int .i64 ((dv i k : Nat) : Int)] 3 (0, 0))] w1 hkl hix rfl (by simpa using hw1)) ?_ ?_
      · -- yield true
        rintro x2 hi2
        refine JL.val rfl rfl rfl (.none rfl) (Ev.not rfl) ?_
        refine JL.nil ?_
        refine JQ.thenN ?_
        refine JC.condF rfl ?_
        refine JC.skip ?_
        refine JQ.blockN ?_
        refine JQ.thenN ?_
        refine JC.cut (X := Unit) (fun _ => [(0, .func (.yield l) #[] #[]), (1, .pointer (some ⟨bn, 0, none⟩)), (2, .pointer (some ⟨bi, 0, none⟩))]) (fun _ => [(bn, Obj.cells #[.int .i64 ((((hn n k : Nat) : Int) + 1) / 2)] 3 (0, 0)), (bi, Obj.cells #[.int .i64 (((dv i k : Nat) : Int) / 2)] 3 (0, 0))] ++ A x2) ?_ ?_
        · refine JC.regionA (by kernel_rfl) ?_
          refine JA.branch [0, 2] (by kernel_rfl) rfl ?_
          refine JAll.cons rfl ?_ ?_
          · -- 0
            refine JO.val rfl rfl rfl (.none rfl) (Ev.load1 rfl Tryd.underlying3 rfl (Rd.own memK rfl)) ?_
            refine JA.tkc 1 rfl (.none rfl) (fun _ => (Ev.bin rfl rfl (quo_i64 (by omega)))) ?_
            refine JA.branch [2, 5] (by kernel_rfl) rfl ?_
            refine JAll.cons rfl ?_ ?_
            · -- 2
              refine JO.val rfl rfl rfl (.none rfl) (Ev.load1 rfl Tryd.underlying3 rfl (Rd.own memK rfl)) ?_
              refine JA.tkc 3 rfl (.none rfl) (fun _ => (Ev.bin rfl rfl (add_i64 (by omega)))) ?_
              refine JA.tkc 4 rfl (.none rfl) (fun _ => (Ev.bin rfl rfl (quo_i64 (by omega)))) ?_
              refine JA.one 5 ?_
              refine JO.sto rfl rfl (.none rfl) (Es.store0 rfl rfl Tryd.sizeOf3 rfl rfl Upd.k) ?_
              refine JA.one 6 ?_
              refine JO.sto rfl rfl (.none rfl) (Es.store0 rfl rfl Tryd.sizeOf3 rfl rfl Upd.k) ?_
              refine JA.done (by kernel_rfl) ?_
              refine JQ.cutN () ?_ ?_
              · exact Keeps.k
              · exact Sub.k
            refine JAll.cons rfl ?_ JAll.nil
            refine JO.sto rfl rfl (.none rfl) (Es.store0 rfl rfl Tryd.sizeOf3 rfl rfl Upd.k) ?_
            refine JA.one 2 ?_
            refine JO.val rfl rfl rfl (.none rfl) (Ev.load1 rfl Tryd.underlying3 rfl (Rd.own memK rfl)) ?_
            refine JA.tkc 3 rfl (.none rfl) (fun _ => (Ev.bin rfl rfl (add_i64 (by omega)))) ?_
            refine JA.tkc 4 rfl (.none rfl) (fun _ => (Ev.bin rfl rfl (quo_i64 (by omega)))) ?_
            refine JA.one 6 ?_
            refine JO.sto rfl rfl (.none rfl) (Es.store0 rfl rfl Tryd.sizeOf3 rfl rfl Upd.k) ?_
            refine JA.done (by kernel_rfl) ?_
            refine JQ.cutN () ?_ ?_
            · exact Keeps.k
            · exact Sub.k
          refine JAll.cons rfl ?_ JAll.nil
          refine JO.val rfl rfl rfl (.none rfl) (Ev.load1 rfl Tryd.underlying3 rfl (Rd.own memK rfl)) ?_
          refine JA.tkc 3 rfl (.none rfl) (fun _ => (Ev.bin rfl rfl (add_i64 (by omega)))) ?_
          refine JA.tkc 4 rfl (.none rfl) (fun _ => (Ev.bin rfl rfl (quo_i64 (by omega)))) ?_
          refine JA.one 0 ?_
          refine JO.val rfl rfl rfl (.none rfl) (Ev.load1 rfl Tryd.underlying3 rfl (Rd.own memK rfl)) ?_
          refine JA.tkc 1 rfl (.none rfl) (fun _ => (Ev.bin rfl rfl (quo_i64 (by omega)))) ?_
          refine JA.one 5 ?_
          refine JO.sto rfl rfl (.none rfl) (Es.store0 rfl rfl Tryd.sizeOf3 rfl rfl Upd.k) ?_
          refine JA.one 6 ?_
          refine JO.sto rfl rfl (.none rfl) (Es.store0 rfl rfl Tryd.sizeOf3 rfl rfl Upd.k) ?_
          refine JA.done (by kernel_rfl) ?_
          refine JQ.cutN () ?_ ?_
          · exact Keeps.k
          · exact Sub.k
        rintro _
        refine JQ.reH (b := bi) (o' := Obj.cells #[.int .i64 ((dv i (k + 1) : Nat) : Int)] 3 (0, 0)) Upd.k (congrArg (fun x => Obj.cells #[Value.int .i64 x] 3 (0, 0)) (by rw [dv_succ]; omega)) ?_
        refine JQ.reH (b := bn) (o' := Obj.cells #[.int .i64 ((hn n (k + 1) : Nat) : Int)] 3 (0, 0)) Upd.k (congrArg (fun x => Obj.cells #[Value.int .i64 x] 3 (0, 0)) (by rw [hn_succ]; omega)) ?_
        refine JQ.loopN (k + 1, x2) ?_ ?_ ?_ ?_
        · exact Keeps.k
        · exact Sub.all
        · exact ⟨by omega, hi2⟩
        · show lg n - (k + 1) < lg n - k; omega
      · -- yield false
        rintro B hz
        refine JL.val rfl rfl rfl (.none rfl) (Ev.not rfl) ?_
        refine JL.nil ?_
        refine JQ.thenN ?_
        refine JC.condT rfl ?_
        refine JC.ret ?_
        refine JQ.blockR ?_
        refine JQ.thenR ?_
        refine JQ.thenR ?_
        refine JQ.blockR ?_
        refine JQ.end0 (H' := ([(bn, Obj.cells #[.int .i64 ((hn n k : Nat) : Int)] 3 (0, 0)), (bi, Obj.cells #[.int .i64 ((dv i k : Nat) : Int)] 3 (0, 0))] ++ B)) (.inl rfl) rfl  ?_ ?_
        · exact Sub.all
        · exact .inr ⟨B, _, hz, rfl⟩
  · -- t5 False
    replace hc1 := of_decide_eq_false hc1
    obtain rfl : k = lg n := lg_eq (by omega) hkk
    refine JC.exit ?_
    refine JQ.thenE ?_
    refine JQ.thenE ?_
    refine JQ.blockE ?_
    refine JQ.end0 (H' := ([(bn, Obj.cells #[.int .i64 ((hn n (lg n) : Nat) : Int)] 3 (0, 0)), (bi, Obj.cells #[.int .i64 ((dv i (lg n) : Nat) : Int)] 3 (0, 0))] ++ A x)) (.inr rfl) rfl  ?_ ?_
    · exact Sub.all
    · exact .inl ⟨x, _, hix, rfl⟩

theorem PathLen_any (i n : Int) (hib : -9223372036854775808 ≤ i ∧ i ≤ 9223372036854775807) (hnb : -9223372036854775808 ≤ n ∧ n ≤ 9223372036854775807) (w : World) :
    Calls Tryd.prog 12 #[.int .i64 i, .int .i64 n] w (Ret w (fun v _ => v = .tuple #[.int .i64 (plV i n : Int), .int .i64 (plE i n)])) := by
  refine enterM (vs := [.int .i64 i, .int .i64 n]) Tryd.func12 rfl Tryd.ntmps12 rfl ?_
  refine JC.seq ?_
  refine JC.region ?_
  refine JL.asg ?_
  refine JL.asg ?_
  refine JL.nil ?_
  refine JQ.thenN ?_
  refine JC.seq ?_
  refine JC.seq ?_
  refine JC.region ?_
  refine JL.mv ?_
  refine JL.val rfl rfl rfl (.none rfl) (Ev.bin rfl rfl lss_int) ?_
  refine JL.mv ?_
  refine JL.split (d := 10) rfl (fun hg1 => ?_) (fun hg1 => ?_)
  · -- guard 10 true
    have hbad : badT i n := .inl (by have := of_decide_eq_true hg1; omega)
    refine JL.skip rfl rfl (.noF rfl rfl rfl) ?_
    refine JL.skip rfl rfl (.noF rfl rfl rfl) ?_
    refine JL.val rfl rfl rfl (.none rfl) (Ev.pickT rfl rfl) ?_
    refine JL.mv ?_
    refine JL.skip rfl rfl (.noF rfl rfl rfl) ?_
    refine JL.skip rfl rfl (.noF rfl rfl rfl) ?_
    refine JL.val rfl rfl rfl (.none rfl) (Ev.pickT rfl rfl) ?_
    refine JL.mv ?_
    refine JL.skip rfl rfl (.noF rfl rfl rfl) ?_
    refine JL.skip rfl rfl (.noF rfl rfl rfl) ?_
    refine JL.skip rfl rfl (.noF rfl rfl rfl) ?_
    refine JL.val rfl rfl rfl (.none rfl) (Ev.pickT rfl rfl) ?_
    refine JL.nil ?_
    refine JQ.thenN ?_
    refine JC.condT rfl ?_
    refine JC.seq ?_
    refine JC.region ?_
    refine JL.asg ?_
    refine JL.asg ?_
    refine JL.nil ?_
    refine JQ.thenN ?_
    refine JC.ret ?_
    refine JQ.thenR ?_
    refine JQ.endM0s (H' := []) (.inl rfl) (by exact Sub.k) (res2 rfl (.tmp rfl) (.tmp rfl)) ?_
    · rw [plV_bad hbad, plE_bad hbad]; rfl
  · -- guard 10 false
    have hg1 := of_decide_eq_false hg1
    refine JL.val rfl rfl rfl (.yes rfl rfl rfl) (Ev.move rfl) ?_
    refine JL.val rfl rfl rfl (.yes rfl rfl rfl) (Ev.bin rfl rfl gtr_int) ?_
    refine JL.val rfl rfl rfl (.none rfl) (Ev.pickF rfl rfl) ?_
    refine JL.mv ?_
    refine JL.split (d := 14) rfl (fun hg2 => ?_) (fun hg2 => ?_)
    · -- guard 14 true
      have hbad : badT i n := .inr (.inl (by have := of_decide_eq_true hg2; omega))
      refine JL.skip rfl rfl (.noF rfl rfl rfl) ?_
      refine JL.skip rfl rfl (.noF rfl rfl rfl) ?_
      refine JL.val rfl rfl rfl (.none rfl) (Ev.pickT rfl rfl) ?_
      refine JL.mv ?_
      refine JL.skip rfl rfl (.noF rfl rfl rfl) ?_
      refine JL.skip rfl rfl (.noF rfl rfl rfl) ?_
      refine JL.skip rfl rfl (.noF rfl rfl rfl) ?_
      refine JL.val rfl rfl rfl (.none rfl) (Ev.pickT rfl rfl) ?_
      refine JL.nil ?_
      refine JQ.thenN ?_
      refine JC.condT rfl ?_
      refine JC.seq ?_
      refine JC.region ?_
      refine JL.asg ?_
      refine JL.asg ?_
      refine JL.nil ?_
      refine JQ.thenN ?_
      refine JC.ret ?_
      refine JQ.thenR ?_
      refine JQ.endM0s (H' := []) (.inl rfl) (by exact Sub.k) (res2 rfl (.tmp rfl) (.tmp rfl)) ?_
      · rw [plV_bad hbad, plE_bad hbad]; rfl
    · -- guard 14 false
      have hg2 := of_decide_eq_false hg2
      refine JL.val rfl rfl rfl (.yes rfl rfl rfl) (Ev.move rfl) ?_
      refine JL.val rfl rfl rfl (.yes rfl rfl rfl) (Ev.bin rfl rfl lss_int) ?_
      refine JL.val rfl rfl rfl (.none rfl) (Ev.pickF rfl rfl) ?_
      refine JL.mv ?_
      refine JL.split (d := 18) rfl (fun hg3 => ?_) (fun hg3 => ?_)
      · -- guard 18 true
        have hbad : badT i n := .inr (.inr (.inl (by have := of_decide_eq_true hg3; omega)))
        refine JL.skip rfl rfl (.noF rfl rfl rfl) ?_
        refine JL.skip rfl rfl (.noF rfl rfl rfl) ?_
        refine JL.skip rfl rfl (.noF rfl rfl rfl) ?_
        refine JL.val rfl rfl rfl (.none rfl) (Ev.pickT rfl rfl) ?_
        refine JL.nil ?_
        refine JQ.thenN ?_
        refine JC.condT rfl ?_
        refine JC.seq ?_
        refine JC.region ?_
        refine JL.asg ?_
        refine JL.asg ?_
        refine JL.nil ?_
        refine JQ.thenN ?_
        refine JC.ret ?_
        refine JQ.thenR ?_
        refine JQ.endM0s (H' := []) (.inl rfl) (by exact Sub.k) (res2 rfl (.tmp rfl) (.tmp rfl)) ?_
        · rw [plV_bad hbad, plE_bad hbad]; rfl
      · -- guard 18 false
        have hg3 := of_decide_eq_false hg3
        refine JL.val rfl rfl rfl (.yes rfl rfl rfl) (Ev.move rfl) ?_
        refine JL.val rfl rfl rfl (.yes rfl rfl rfl) (Ev.move rfl) ?_
        refine JL.val rfl rfl rfl (.yes rfl rfl rfl) (Ev.bin rfl rfl geq_int) ?_
        refine JL.val rfl rfl rfl (.none rfl) (Ev.pickF rfl rfl) ?_
        refine JL.nil ?_
        refine JQ.thenN ?_
        refine JC.cond rfl (fun hc1 => ?_) (fun hc1 => ?_)
        · -- t22 True
          replace hc1 := of_decide_eq_true hc1
          have hbad : badT i n := .inr (.inr (.inr (by omega)))
          refine JC.seq ?_
          refine JC.region ?_
          refine JL.asg ?_
          refine JL.asg ?_
          refine JL.nil ?_
          refine JQ.thenN ?_
          refine JC.ret ?_
          refine JQ.thenR ?_
          refine JQ.endM0s (H' := []) (.inl rfl) (by exact Sub.k) (res2 rfl (.tmp rfl) (.tmp rfl)) ?_
          · rw [plV_bad hbad, plE_bad hbad]; rfl
        · -- t22 False
          replace hc1 := of_decide_eq_false hc1
          have hok : ¬ badT i n := by unfold badT; omega
          obtain ⟨I, rfl⟩ : ∃ m : Nat, i = (m : Int) := ⟨i.toNat, by omega⟩
          obtain ⟨N, rfl⟩ : ∃ m : Nat, n = (m : Int) := ⟨n.toNat, by omega⟩
          have hin : I < N := by omega
          refine JC.skip ?_
          refine JQ.thenN ?_
          refine JC.seq ?_
          refine JC.region ?_
          refine JL.new rfl rfl rfl (.none rfl) (En.allocZ (cs := #[.int .i64 0]) Tryd.zeroValue3 rfl) (fun b6 hb6 => ?_)
          refine JL.sto rfl rfl (.none rfl) (Es.store0 rfl rfl Tryd.sizeOf3 rfl rfl Upd.k) ?_
          refine JL.nil ?_
          refine JQ.thenN ?_
          refine JC.seq ?_
          refine JC.seq ?_
          refine JC.region ?_
          refine JL.mv ?_
          refine JL.mv ?_
          refine JL.callN rfl (.none rfl) rfl Tryd.call30 (fun w1 hw1 => turns_any (I : Int) (N : Int) w1) ?_
          rintro _ _ ⟨bn, bi, rfl, rfl⟩
          refine JL.nil ?_
          refine JQ.thenN ?_
          refine JC.block ?_
          refine JC.rangeH (ps := [26]) (X := Nat) (Y := Nat) (lg N) (fun m E => (b6, Obj.cells #[.int .i64 (m : Int)] 3 (0, 0)) :: E) (fun k m => m + stepsR (dv I k) (hn N k) = stepsR I N) (fun c m => False) ((fun k vs _ => vs = [Value.agg #[.bool (isT (dv I k) (hn N k)), .bool (decide ((dv I k) % 2 = 1))]])) ([(bn, Obj.cells #[.int .i64 ((N : Nat) : Int)] 3 (0, 0)), (bi, Obj.cells #[.int .i64 ((I : Nat) : Int)] 3 (0, 0))]) 0 (fun k m vs y => [(6, .pointer (some ⟨b6, 0, none⟩)), (7, .pointer (some ⟨y, 0, none⟩)), (26, (vs.headD undef))]) (fun m vs y E => (y, Obj.cells ((vs.headD undef)).cells 59 (0, 0)) :: (b6, Obj.cells #[.int .i64 (m : Int)] 3 (0, 0)) :: E) (fun _ _ => rfl) (fun _ _ _ _ => rfl) rfl Tryd.call40 ?_ ?_ rfl (fun _ _ _ h => by rw [h]; rfl) (fun X A Inv Z l x0 w1 hi hw hy => turnsI_any I N hin (by omega) bn bi X A Inv Z l x0 w w1 hi hw hy) ?_ ?_ ?_ ?_
          · exact Sub.k
          · show 0 + stepsR I N = _; rw [Nat.zero_add]
          · rintro lr k m vs O E hkN hm rfl hO
            refine JC.region ?_
            refine JL.new rfl rfl rfl (.none rfl) (En.allocZ (cs := #[.bool false, .bool false]) Tryd.zeroValue59 rfl) (fun b7 hb7 => ?_)
            refine JL.sto rfl rfl (.none rfl) (Es.sA Tryd.sizeOf59) ?_
            refine JL.nil ?_
            refine JQ.asgH b7 ?_ ?_
            · exact Keeps.k
            · exact Sub.k
          · rintro lr k m vs y O E hkN hm rfl hO
            change JC _ [(6, .pointer (some ⟨b6, 0, none⟩)), (7, .pointer (some ⟨y, 0, none⟩)), (26, Value.agg #[.bool (isT (dv I k) (hn N k)), .bool (decide ((dv I k) % 2 = 1))])] ((y, Obj.cells (Value.agg #[.bool (isT (dv I k) (hn N k)), .bool (decide ((dv I k) % 2 = 1))]).cells 59 (0, 0)) :: (b6, Obj.cells #[.int .i64 (m : Int)] 3 (0, 0)) :: E) _ _
            have hsu := steps_up (lg_lt hkN) (dv_lt hin k)
            have hsl := stepsR_le N I N (Nat.le_refl _)
            refine JC.block ?_
            refine JC.seq ?_
            refine JC.region ?_
            refine JL.val rfl rfl rfl (.none rfl) (Ev.fld 0 rfl (fun _ _ => by kernel_rfl)) ?_
            refine JL.val rfl rfl rfl (.none rfl) (Ev.load1 rfl Tryd.underlying4 rfl (Rd.own memK rfl)) ?_
            refine JL.nil ?_
            refine JQ.thenN ?_
            refine JC.cond rfl (fun hc2 => ?_) (fun hc2 => ?_)
            · -- t28 True
              rw [hc2, if_pos rfl] at hsu
              refine JC.region ?_
              refine JL.val rfl rfl rfl (.none rfl) (Ev.load1 rfl Tryd.underlying3 rfl (Rd.own memK rfl)) ?_
              refine JL.val rfl rfl rfl (.none rfl) (Ev.bin rfl rfl (add_i64 (by omega))) ?_
              refine JL.sto rfl rfl (.none rfl) (Es.store0 rfl rfl Tryd.sizeOf3 rfl rfl Upd.k) ?_
              refine JL.nil ?_
              refine JQ.reH (b := b6) (o' := Obj.cells #[.int .i64 ((m + 1 : Nat) : Int)] 3 (0, 0)) Upd.k rfl ?_
              refine JQ.blockN ?_
              refine JQ.bodG (m + 1) ?_ ?_
              · rw [dv_succ, hn_succ]; omega
              · exact Sub.k
            · -- t28 False
              rw [hc2] at hsu; simp only [Bool.false_eq_true, if_false, Nat.zero_add] at hsu
              refine JC.skip ?_
              refine JQ.blockN ?_
              refine JQ.bodG m ?_ ?_
              · rw [dv_succ, hn_succ]; omega
              · exact Sub.k
          · rintro m D E hm
            refine JQ.blockN ?_
            refine JQ.thenN ?_
            refine JC.seq ?_
            refine JC.region ?_
            refine JL.val rfl rfl rfl (.none rfl) (Ev.load1 rfl Tryd.underlying3 rfl (Rd.own memK rfl)) ?_
            refine JL.asg ?_
            refine JL.asg ?_
            refine JL.nil ?_
            refine JQ.thenN ?_
            refine JC.ret ?_
            refine JQ.endMs (H' := []) (.inl rfl) memK ⟨_, Upd.k, by exact Sub.k, (res2 rfl (.tmp rfl) (.tmp rfl))⟩ ?_
            · rw [stepsR_small (lg_end N), Nat.add_zero] at hm; rw [plV_ok hok, plE_ok hok, ← hm]; rfl
          · rintro c m D E hs
            exact hs.elim

theorem Follow_any (x : Dig) (i n : Int) (hib : -9223372036854775808 ≤ i ∧ i ≤ 9223372036854775807) (hnb : -9223372036854775808 ≤ n ∧ n ≤ 9223372036854775807) (oa : Option Addr) (cap : Nat) (ds : List Dig) (w : World) (hd : Dl w oa cap ds) (hk : KMem 1 w) (hf : FMem 0 w) :
    Calls Tryd.prog 14 #[.agg (arr8 x.1), .int .i64 i, .int .i64 n, .slice oa ds.length cap] w (Ret w (fun v _ => v = .tuple #[.agg (arr8 (foV x i n ds).1), .int .i64 (foE i n ds)])) := by
  refine enterM (vs := [.agg (arr8 x.1), .int .i64 i, .int .i64 n, .slice oa ds.length cap]) Tryd.func14 rfl Tryd.ntmps14 rfl ?_
  refine JC.seq ?_
  refine JC.region ?_
  refine JL.new rfl rfl rfl (.none rfl) (En.boxA rfl) (fun b4 hb4 => ?_)
  refine JL.new rfl rfl rfl (.none rfl) (En.box1 rfl rfl) (fun b7 hb7 => ?_)
  refine JL.new rfl rfl rfl (.none rfl) (En.allocZ (cs := arr8 (List.replicate 32 0)) Tryd.zeroValue22 rfl) (fun b8 hb8 => ?_)
  refine JL.asg ?_
  refine JL.nil ?_
  refine JQ.thenN ?_
  refine JC.seq ?_
  refine JC.region ?_
  refine JL.mv ?_
  refine JL.mv ?_
  refine JL.callV rfl (.none rfl) rfl Tryd.call12 (fun w1 hw1 => PathLen_any i n hib hnb w1) ?_
  refine JL.mv ?_
  refine JL.val rfl rfl rfl (.none rfl) (Ev.ex0 rfl) ?_
  refine JL.val rfl rfl rfl (.none rfl) (Ev.ex1 rfl) ?_
  refine JL.asg ?_
  refine JL.asg ?_
  refine JL.nil ?_
  refine JQ.thenN ?_
  refine JC.seq ?_
  refine JC.seq ?_
  refine JC.region ?_
  refine JL.mv ?_
  refine JL.val rfl rfl rfl (.none rfl) (Ev.bin rfl rfl neq_int) ?_
  refine JL.nil ?_
  refine JQ.thenN ?_
  refine JC.cond rfl (fun hc1 => ?_) (fun hc1 => ?_)
  · -- t20 True
    have hbad : badT i n := Classical.byContradiction fun h => by rw [plE_ok h] at hc1; simp at hc1
    refine JC.seq ?_
    refine JC.region ?_
    refine JL.val rfl rfl rfl (.none rfl) (Ev.bu0 Tryd.underlying22 Tryd.sizeOf5 Tryd.zeroValue22) ?_
    refine JL.mv ?_
    refine JL.sto rfl rfl (.none rfl) (Es.sA Tryd.sizeOf22) ?_
    refine JL.asg ?_
    refine JL.nil ?_
    refine JQ.thenN ?_
    refine JC.ret ?_
    refine JQ.thenR ?_
    refine JQ.endM0s (H' := []) (.inl rfl) (by exact Sub.k) (res2 rfl (.agg rfl memK Tryd.underlying22 rfl Tryd.sizeOf22 szK) (.tmp rfl)) ?_
    · rw [foV_bad hbad, foE_bad hbad, plE_bad hbad]; rfl
  · -- t20 False
    have hok : ¬ badT i n := fun h => by rw [plE_bad h] at hc1; simp at hc1
    have hbd := hok
    unfold badT at hbd
    obtain ⟨I, rfl⟩ : ∃ m : Nat, i = (m : Int) := ⟨i.toNat, by omega⟩
    obtain ⟨N, rfl⟩ : ∃ m : Nat, n = (m : Int) := ⟨n.toNat, by omega⟩
    have hin : I < N ∧ N ≤ 1024 := by omega
    refine JC.skip ?_
    refine JQ.thenN ?_
    refine JC.seq ?_
    refine JC.seq ?_
    refine JC.region ?_
    refine JL.val rfl rfl rfl (.none rfl) (Ev.load1 rfl Tryd.underlying23 rfl (Rd.own memK rfl)) ?_
    refine JL.val rfl rfl rfl (.none rfl) (Ev.lenS rfl Tryd.underlying23) ?_
    refine JL.mv ?_
    refine JL.val rfl rfl rfl (.none rfl) (Ev.bin rfl rfl neq_int) ?_
    refine JL.nil ?_
    refine JQ.thenN ?_
    refine JC.cond rfl (fun hc2 => ?_) (fun hc2 => ?_)
    · -- t26 True
      have hne : ds.length ≠ stepsR I N := fun h => by rw [plV_ok hok, ← h] at hc2; simp at hc2
      refine JC.seq ?_
      refine JC.region ?_
      refine JL.val rfl rfl rfl (.none rfl) (Ev.bu0 Tryd.underlying22 Tryd.sizeOf5 Tryd.zeroValue22) ?_
      refine JL.sto rfl rfl (.none rfl) (Es.sA Tryd.sizeOf22) ?_
      refine JL.asg ?_
      refine JL.nil ?_
      refine JQ.thenN ?_
      refine JC.ret ?_
      refine JQ.thenR ?_
      refine JQ.endM0s (H' := []) (.inl rfl) (by exact Sub.k) (res2 rfl (.agg rfl memK Tryd.underlying22 rfl Tryd.sizeOf22 szK) (.tmp rfl)) ?_
      · rw [foV_ne hok hne, foE_ne hok hne]; rfl
    · -- t26 False
      have heq : ds.length = stepsR I N := Classical.byContradiction fun h => by rw [plV_ok hok] at hc2; have := of_decide_eq_false hc2; omega
      refine JC.skip ?_
      refine JQ.thenN ?_
      refine JC.seq ?_
      refine JC.seq ?_
      refine JC.region ?_
      refine JL.mv ?_
      refine JL.mv ?_
      refine JL.callN rfl (.none rfl) rfl Tryd.call30 (fun w1 hw1 => turns_any (I : Int) (N : Int) w1) ?_
      rintro _ _ ⟨bn, bi, rfl, rfl⟩
      refine JL.nil ?_
      refine JQ.thenN ?_
      refine JC.block ?_
      refine JC.rangeH (ps := [31]) (X := Dig × Option Addr × Nat × List Dig) (Y := Nat) (lg N) (fun ⟨z, op, cp, qs⟩ E => (b8, Obj.cells (arr8 (List.replicate 32 0)) 22 (0, 0)) :: (b7, Obj.cells #[.slice op qs.length cp] 23 (0, 0)) :: (b4, Obj.cells (arr8 z.1) 22 (0, 0)) :: E) (fun k ⟨z, op, cp, qs⟩ => Dl w op cp qs ∧ qs.length = stepsR (dv I k) (hn N k) ∧ ledR z (dv I k) (hn N k) qs = ledR x I N ds) (fun c ⟨z, op, cp, qs⟩ => False) ((fun k vs _ => vs = [Value.agg #[.bool (isT (dv I k) (hn N k)), .bool (decide ((dv I k) % 2 = 1))]])) ([(bn, Obj.cells #[.int .i64 ((N : Nat) : Int)] 3 (0, 0)), (bi, Obj.cells #[.int .i64 ((I : Nat) : Int)] 3 (0, 0))]) (x, oa, cap, ds) (fun k ⟨z, op, cp, qs⟩ vs y => [(4, .pointer (some ⟨b4, 0, none⟩)), (7, .pointer (some ⟨b7, 0, none⟩)), (8, .pointer (some ⟨b8, 0, none⟩)), (12, .pointer (some ⟨y, 0, none⟩)), (31, (vs.headD undef))]) (fun ⟨z, op, cp, qs⟩ vs y E => (y, Obj.cells ((vs.headD undef)).cells 59 (0, 0)) :: (b8, Obj.cells (arr8 (List.replicate 32 0)) 22 (0, 0)) :: (b7, Obj.cells #[.slice op qs.length cp] 23 (0, 0)) :: (b4, Obj.cells (arr8 z.1) 22 (0, 0)) :: E) (fun _ _ => rfl) (fun _ _ _ _ => rfl) rfl Tryd.call40 ?_ ?_ rfl (fun _ _ _ h => by rw [h]; rfl) (fun X A Inv Z l x0 w1 hi hw hy => turnsI_any I N hin.1 hin.2 bn bi X A Inv Z l x0 w w1 hi hw hy) ?_ ?_ ?_ ?_
      · exact Sub.k
      · exact ⟨hd, heq, rfl⟩
      · rintro lr k ⟨z, op, cp, qs⟩ vs O E hkN ⟨hqd, hql, hqr⟩ rfl hO
        refine JC.region ?_
        refine JL.new rfl rfl rfl (.none rfl) (En.allocZ (cs := #[.bool false, .bool false]) Tryd.zeroValue59 rfl) (fun b12 hb12 => ?_)
        refine JL.sto rfl rfl (.none rfl) (Es.sA Tryd.sizeOf59) ?_
        refine JL.nil ?_
        refine JQ.asgH b12 ?_ ?_
        · exact Keeps.k
        · exact Sub.k
      · rintro lr k ⟨z, op, cp, qs⟩ vs y O E hkN ⟨hqd, hql, hqr⟩ rfl hO
        change JC _ [(4, .pointer (some ⟨b4, 0, none⟩)), (7, .pointer (some ⟨b7, 0, none⟩)), (8, .pointer (some ⟨b8, 0, none⟩)), (12, .pointer (some ⟨y, 0, none⟩)), (31, Value.agg #[.bool (isT (dv I k) (hn N k)), .bool (decide ((dv I k) % 2 = 1))])] ((y, Obj.cells (Value.agg #[.bool (isT (dv I k) (hn N k)), .bool (decide ((dv I k) % 2 = 1))]).cells 59 (0, 0)) :: (b8, Obj.cells (arr8 (List.replicate 32 0)) 22 (0, 0)) :: (b7, Obj.cells #[.slice op qs.length cp] 23 (0, 0)) :: (b4, Obj.cells (arr8 z.1) 22 (0, 0)) :: E) _ _
        refine JC.block ?_
        refine JC.seq ?_
        refine JC.block ?_
        refine JC.seq ?_
        refine JC.region ?_
        refine JL.val rfl rfl rfl (.none rfl) (Ev.fld 0 rfl (fun _ _ => by kernel_rfl)) ?_
        refine JL.val rfl rfl rfl (.none rfl) (Ev.load1 rfl Tryd.underlying4 rfl (Rd.own memK rfl)) ?_
        refine JL.val rfl rfl rfl (.none rfl) (Ev.not rfl) ?_
        refine JL.asg ?_
        refine JL.nil ?_
        refine JQ.thenN ?_
        refine JC.cond rfl (fun hT => ?_) (fun hT => ?_)
        · -- t37 True
          have hT : isT (dv I k) (hn N k) = false := by simpa using hT
          refine JC.exit ?_
          refine JQ.blockO rfl ?_
          refine JQ.thenE ?_
          refine JQ.blockE ?_
          refine JQ.bodG (z, op, cp, qs) ?_ ?_
          · have hsu := steps_up (lg_lt hkN) (dv_lt hin.1 k); rw [hT] at hsu; exact ⟨hqd, by rw [dv_succ, hn_succ]; simpa [hql] using hsu, by rw [dv_succ, hn_succ, ← led_no (lg_lt hkN) (dv_lt hin.1 k) hql hT]; exact hqr⟩
          · exact Sub.k
        · -- t37 False
          have hT : isT (dv I k) (hn N k) = true := by simpa using hT
          have hsu := steps_up (lg_lt hkN) (dv_lt hin.1 k)
          rw [hT, if_pos rfl] at hsu
          obtain ⟨p0, tl, rfl⟩ : ∃ p0 tl, qs = p0 :: tl := by cases qs with | nil => (simp only [List.length_nil] at hql; omega) | cons p0 tl => exact ⟨p0, tl, rfl⟩
          have hql2 : tl.length + 1 = stepsR (dv I k) (hn N k) := hql
          obtain ⟨a, rfl⟩ := Cs.get_some hqd (by simp)
          obtain ⟨ob, eob, hob⟩ := Dl.drop hqd (k := 1) (by simp)
          have hld := led_yes (x := z) (lg_lt hkN) (dv_lt hin.1 k) hql hT
          refine JC.seq ?_
          refine JC.region ?_
          refine JL.val rfl rfl rfl (.none rfl) (Ev.fld 1 rfl (fun _ _ => by kernel_rfl)) ?_
          refine JL.val rfl rfl rfl (.none rfl) (Ev.load1 rfl Tryd.underlying4 rfl (Rd.own memK rfl)) ?_
          refine JL.asg ?_
          refine JL.nil ?_
          refine JQ.thenN ?_
          refine JC.cond rfl (fun hlf => ?_) (fun hlf => ?_)
          · -- t41 True
            replace hlf := of_decide_eq_true hlf
            refine JC.regionT 5 (by kernel_rfl) (by kernel_rfl) (List.take_append_drop 5 _).symm rfl ?_
            refine JW.val rfl rfl (.none rfl) (Ev.load1 rfl Tryd.underlying23 rfl (Rd.own memK rfl)) ?_
            refine JW.val rfl rfl (.none rfl) (Ev.idxS (k := 0) rfl rfl Tryd.underlying23 Tryd.sizeOf22 rfl (by simp)) ?_
            refine JW.val rfl rfl (.none rfl) (Ev.loadD rfl Tryd.underlying22 rfl Tryd.sizeOf22 (Rds.old ((hqd.mem a rfl).atD (k := 0) rfl))) ?_
            refine JW.val rfl rfl (.none rfl) (Ev.lB Tryd.underlying22 Tryd.sizeOf22) ?_
            refine JW.call rfl (.none rfl) rfl Tryd.call23 (fun w1 hw1 => nodeG_any _ _ w1 (hk.old hw1) (hf.old hw1)) ?_
            refine JW.tail ?_
            refine JL.sto rfl rfl (.none rfl) (Es.sA Tryd.sizeOf22) ?_
            refine JL.nil ?_
            refine JQ.reH (b := b4) (o' := Obj.cells (arr8 (stepD (dv I k) z p0).1) 22 (0, 0)) Upd.k (congrArg (fun x : Dig => Obj.cells (arr8 x.1) 22 (0, 0)) (by unfold stepD; rw [if_pos hlf])) ?_
            refine JQ.blockN ?_
            refine JQ.thenN ?_
            refine JC.region ?_
            refine JL.val rfl rfl rfl (.none rfl) (Ev.load1 rfl Tryd.underlying23 rfl (Rd.own memK rfl)) ?_
            refine JL.val rfl rfl rfl (.none rfl) (Ev.cast (v' := .slice ob tl.length (cp - 1)) (eob) (Ev.sliceLo rfl rfl Tryd.underlying23 Tryd.sizeOf22 (l := 1) rfl (by simp))) ?_
            refine JL.sto rfl rfl (.none rfl) (Es.store0 rfl rfl Tryd.sizeOf23 rfl rfl Upd.k) ?_
            refine JL.nil ?_
            refine JQ.blockN ?_
            refine JQ.bodG (stepD (dv I k) z p0, ob, cp - 1, tl) ?_ ?_
            · exact ⟨hob w hqd, by rw [dv_succ, hn_succ]; omega, by rw [dv_succ, hn_succ, ← hld]; exact hqr⟩
            · exact Sub.k
          · -- t41 False
            replace hlf := of_decide_eq_false hlf
            refine JC.regionT 5 (by kernel_rfl) (by kernel_rfl) (List.take_append_drop 5 _).symm rfl ?_
            refine JW.val rfl rfl (.none rfl) (Ev.lB Tryd.underlying22 Tryd.sizeOf22) ?_
            refine JW.val rfl rfl (.none rfl) (Ev.load1 rfl Tryd.underlying23 rfl (Rd.own memK rfl)) ?_
            refine JW.val rfl rfl (.none rfl) (Ev.idxS (k := 0) rfl rfl Tryd.underlying23 Tryd.sizeOf22 rfl (by simp)) ?_
            refine JW.val rfl rfl (.none rfl) (Ev.loadD rfl Tryd.underlying22 rfl Tryd.sizeOf22 (Rds.old ((hqd.mem a rfl).atD (k := 0) rfl))) ?_
            refine JW.call rfl (.none rfl) rfl Tryd.call23 (fun w1 hw1 => nodeG_any _ _ w1 (hk.old hw1) (hf.old hw1)) ?_
            refine JW.tail ?_
            refine JL.sto rfl rfl (.none rfl) (Es.sA Tryd.sizeOf22) ?_
            refine JL.nil ?_
            refine JQ.reH (b := b4) (o' := Obj.cells (arr8 (stepD (dv I k) z p0).1) 22 (0, 0)) Upd.k (congrArg (fun x : Dig => Obj.cells (arr8 x.1) 22 (0, 0)) (by unfold stepD; rw [if_neg hlf])) ?_
            refine JQ.blockN ?_
            refine JQ.thenN ?_
            refine JC.region ?_
            refine JL.val rfl rfl rfl (.none rfl) (Ev.load1 rfl Tryd.underlying23 rfl (Rd.own memK rfl)) ?_
            refine JL.val rfl rfl rfl (.none rfl) (Ev.cast (v' := .slice ob tl.length (cp - 1)) (eob) (Ev.sliceLo rfl rfl Tryd.underlying23 Tryd.sizeOf22 (l := 1) rfl (by simp))) ?_
            refine JL.sto rfl rfl (.none rfl) (Es.store0 rfl rfl Tryd.sizeOf23 rfl rfl Upd.k) ?_
            refine JL.nil ?_
            refine JQ.blockN ?_
            refine JQ.bodG (stepD (dv I k) z p0, ob, cp - 1, tl) ?_ ?_
            · exact ⟨hob w hqd, by rw [dv_succ, hn_succ]; omega, by rw [dv_succ, hn_succ, ← hld]; exact hqr⟩
            · exact Sub.k
      · rintro ⟨z, op, cp, qs⟩ D E ⟨hqd, hql, hqr⟩
        refine JQ.blockN ?_
        refine JQ.thenN ?_
        refine JC.seq ?_
        refine JC.region ?_
        refine JL.val rfl rfl rfl (.none rfl) (Ev.lB Tryd.underlying22 Tryd.sizeOf22) ?_
        refine JL.sto rfl rfl (.none rfl) (Es.sA Tryd.sizeOf22) ?_
        refine JL.asg ?_
        refine JL.nil ?_
        refine JQ.thenN ?_
        refine JC.ret ?_
        refine JQ.endMs (H' := []) (.inl rfl) memK ⟨_, Upd.k, by exact Sub.k, (res2 rfl (.agg rfl memK Tryd.underlying22 rfl Tryd.sizeOf22 szK) (.tmp rfl))⟩ ?_
        · rw [ledR_small (lg_end N)] at hqr; rw [foV_ok hok heq, foE_ok hok heq, hqr]
      · rintro c ⟨z, op, cp, qs⟩ D E hs
        exact hs.elim

theorem lawPaths_any (x : Dig) (i n : Int) (hib : -9223372036854775808 ≤ i ∧ i ≤ 9223372036854775807) (hnb : -9223372036854775808 ≤ n ∧ n ≤ 9223372036854775807) (oa : Option Addr) (cap : Nat) (ds : List Dig) (w : World) (hd : Dl w oa cap ds) (hk : KMem 1 w) (hf : FMem 0 w) :
    Calls Tryd.prog 3 #[.agg (arr8 x.1), .int .i64 i, .int .i64 n, .slice oa ds.length cap] w (Ret w (fun v _ => v = .bool true)) := by
  refine enter (vs := [.agg (arr8 x.1), .int .i64 i, .int .i64 n, .slice oa ds.length cap]) Tryd.func3 rfl Tryd.ntmps3 rfl ?_
  refine JC.seq ?_
  refine JC.region ?_
  refine JL.new rfl rfl rfl (.none rfl) (En.boxA rfl) (fun b4 hb4 => ?_)
  refine JL.asg ?_
  refine JL.nil ?_
  refine JQ.thenN ?_
  refine JC.seq ?_
  refine JC.seq ?_
  refine JC.region ?_
  refine JL.mv ?_
  refine JL.callV rfl (.none rfl) rfl Tryd.call11 (fun w1 hw1 => great_any oa ds.length cap w1) ?_
  refine JL.nil ?_
  refine JQ.thenN ?_
  refine JC.cond rfl (fun hc1 => ?_) (fun hc1 => ?_)
  · -- t18 True
    replace hc1 := of_decide_eq_true hc1
    refine JC.seq ?_
    refine JC.region ?_
    refine JL.asg ?_
    refine JL.nil ?_
    refine JQ.thenN ?_
    refine JC.ret ?_
    refine JQ.thenR ?_
    refine JQ.end1 (H' := []) (.inl rfl) rfl (.tmp rfl) ?_ ?_
    · exact Sub.k
    · rfl
  · -- t18 False
    replace hc1 := of_decide_eq_false hc1
    refine JC.skip ?_
    refine JQ.thenN ?_
    refine JC.seq ?_
    refine JC.region ?_
    refine JL.mv ?_
    refine JL.mv ?_
    refine JL.callV rfl (.none rfl) rfl Tryd.call12 (fun w1 hw1 => PathLen_any i n hib hnb w1) ?_
    refine JL.mv ?_
    refine JL.val rfl rfl rfl (.none rfl) (Ev.ex0 rfl) ?_
    refine JL.val rfl rfl rfl (.none rfl) (Ev.ex1 rfl) ?_
    refine JL.asg ?_
    refine JL.asg ?_
    refine JL.nil ?_
    refine JQ.thenN ?_
    refine JC.seq ?_
    refine JC.region ?_
    refine JL.mv ?_
    refine JL.mv ?_
    refine JL.callV rfl (.none rfl) rfl Tryd.call13 (fun w1 hw1 => rPathLen_any i n hib hnb w1) ?_
    refine JL.mv ?_
    refine JL.val rfl rfl rfl (.none rfl) (Ev.ex0 rfl) ?_
    refine JL.val rfl rfl rfl (.none rfl) (Ev.ex1 rfl) ?_
    refine JL.asg ?_
    refine JL.asg ?_
    refine JL.nil ?_
    refine JQ.thenN ?_
    refine JC.seq ?_
    refine JC.region ?_
    refine JL.val rfl rfl rfl (.none rfl) (Ev.lB Tryd.underlying22 Tryd.sizeOf22) ?_
    refine JL.mv ?_
    refine JL.mv ?_
    refine JL.mv ?_
    refine JL.callV rfl (.none rfl) rfl Tryd.call14 (fun w1 hw1 => Follow_any x i n hib hnb oa cap ds w1 (hd.old hw1) (hk.old hw1) (hf.old hw1)) ?_
    refine JL.mv ?_
    refine JL.val rfl rfl rfl (.none rfl) (Ev.ex0 rfl) ?_
    refine JL.val rfl rfl rfl (.none rfl) (Ev.ex1 rfl) ?_
    refine JL.new rfl rfl rfl (.none rfl) (En.allocZ (cs := arr8 (List.replicate 32 0)) Tryd.zeroValue22 rfl) (fun b13 hb13 => ?_)
    refine JL.sto rfl rfl (.none rfl) (Es.sA Tryd.sizeOf22) ?_
    refine JL.asg ?_
    refine JL.nil ?_
    refine JQ.thenN ?_
    refine JC.seq ?_
    refine JC.region ?_
    refine JL.val rfl rfl rfl (.none rfl) (Ev.lB Tryd.underlying22 Tryd.sizeOf22) ?_
    refine JL.mv ?_
    refine JL.mv ?_
    refine JL.mv ?_
    refine JL.callV rfl (.none rfl) rfl Tryd.call15 (fun w1 hw1 => rFollow_any x i n hib hnb oa cap ds w1 (hd.old hw1)) ?_
    refine JL.mv ?_
    refine JL.val rfl rfl rfl (.none rfl) (Ev.ex0 rfl) ?_
    refine JL.val rfl rfl rfl (.none rfl) (Ev.ex1 rfl) ?_
    refine JL.new rfl rfl rfl (.none rfl) (En.allocZ (cs := arr8 (List.replicate 32 0)) Tryd.zeroValue22 rfl) (fun b15 hb15 => ?_)
    refine JL.sto rfl rfl (.none rfl) (Es.sA Tryd.sizeOf22) ?_
    refine JL.asg ?_
    refine JL.nil ?_
    refine JQ.thenN ?_
    refine JC.seq ?_
    refine JC.region ?_
    refine JL.mv ?_
    refine JL.mv ?_
    refine JL.val rfl rfl rfl (.none rfl) (Ev.bin rfl rfl eql_int) ?_
    refine JL.mv ?_
    refine JL.know (d := 50) (b := true) rfl ?_ ?_
    · exact decide_eq_true rfl
    refine JL.val rfl rfl rfl (.yes rfl rfl rfl) (Ev.move rfl) ?_
    refine JL.val rfl rfl rfl (.yes rfl rfl rfl) (Ev.move rfl) ?_
    refine JL.val rfl rfl rfl (.yes rfl rfl rfl) (Ev.bin rfl rfl eql_int) ?_
    refine JL.val rfl rfl rfl (.none rfl) (Ev.pickT rfl rfl) ?_
    refine JL.mv ?_
    refine JL.know (d := 55) (b := true) rfl ?_ ?_
    · exact decide_eq_true rfl
    refine JL.val rfl rfl rfl (.yes rfl rfl rfl) (Ev.lB Tryd.underlying22 Tryd.sizeOf22) ?_
    refine JL.val rfl rfl rfl (.yes rfl rfl rfl) (Ev.lB Tryd.underlying22 Tryd.sizeOf22) ?_
    refine JL.val rfl rfl rfl (.yes rfl rfl rfl) (Ev.bin rfl rfl (eql_arr8 (n := 32) Tryd.underlying22 Tryd.underlying5 (by kernel_rfl) (by kernel_rfl) (by first | rfl | exact dig_len _ | assumption | exact sha_length _ | exact shaO_length _) (by first | rfl | exact dig_len _ | assumption | exact sha_length _ | exact shaO_length _))) ?_
    refine JL.val rfl rfl rfl (.none rfl) (Ev.pickT rfl rfl) ?_
    refine JL.mv ?_
    refine JL.know (d := 60) (b := true) rfl ?_ ?_
    · exact decide_eq_true rfl
    refine JL.val rfl rfl rfl (.yes rfl rfl rfl) (Ev.move rfl) ?_
    refine JL.val rfl rfl rfl (.yes rfl rfl rfl) (Ev.move rfl) ?_
    refine JL.val rfl rfl rfl (.yes rfl rfl rfl) (Ev.bin rfl rfl eql_int) ?_
    refine JL.val rfl rfl rfl (.none rfl) (Ev.pickT rfl rfl) ?_
    refine JL.asg ?_
    refine JL.nil ?_
    refine JQ.thenN ?_
    refine JC.ret ?_
    refine JQ.end1 (H' := []) (.inl rfl) rfl (.tmp rfl) ?_ ?_
    · exact Sub.k
    · exact congrArg Value.bool (decide_eq_true rfl)

end Go.Proofs.YtebinlinhmohbaaDoor
