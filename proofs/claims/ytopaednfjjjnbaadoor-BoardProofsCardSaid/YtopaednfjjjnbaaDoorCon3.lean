/-
  Consistency in the reference: verifying; peaks, appending, the root of peaks.
-/
import Derived.Test.YtopaednfjjjnbaaDoorCon2
namespace Go.Proofs.YtopaednfjjjnbaaDoor
open Go Go.RowKit
set_option maxRecDepth 100000

def badC (i n : Int) : Prop := n < 1 ∨ 1024 < n ∨ i < 1 ∨ n < i
instance (i n : Int) : Decidable (badC i n) := inferInstanceAs (Decidable (_ ∨ _))
def pcV (i n : Int) : Nat := if badC i n then 0 else stepsC i.toNat n.toNat true
def pcE (i n : Int) : Int := if badC i n then 2 else 0
theorem pcV_bad {i n : Int} (h : badC i n) : pcV i n = 0 := if_pos h
theorem pcE_bad {i n : Int} (h : badC i n) : pcE i n = 2 := if_pos h
theorem pcV_ok {i n : Nat} (h : ¬ badC (i : Int) (n : Int)) : pcV i n = stepsC i n true := if_neg h
theorem pcE_ok {i n : Int} (h : ¬ badC i n) : pcE i n = 0 := if_neg h
def fcV (x : Dig) (i n : Int) (ds : List Dig) : Dig × Dig := if badC i n then (zeroD, zeroD) else if ds.length ≠ stepsC i.toNat n.toNat true then (zeroD, zeroD) else ledC i.toNat n.toNat true x ds
def fcE (i n : Int) (ds : List Dig) : Int := if badC i n then 2 else if ds.length ≠ stepsC i.toNat n.toNat true then 290 else 0
section
variable {x : Dig} {ds : List Dig}
theorem fcV_bad {i n : Int} (h : badC i n) : fcV x i n ds = (zeroD, zeroD) := if_pos h
theorem fcE_bad {i n : Int} (h : badC i n) : fcE i n ds = 2 := if_pos h
theorem fcV_ne {i n : Nat} (h : ¬ badC (i : Int) (n : Int)) (h1 : ds.length ≠ stepsC i n true) : fcV x i n ds = (zeroD, zeroD) := (if_neg h).trans (if_pos h1)
theorem fcE_ne {i n : Nat} (h : ¬ badC (i : Int) (n : Int)) (h1 : ds.length ≠ stepsC i n true) : fcE i n ds = 290 := (if_neg h).trans (if_pos h1)
theorem fcV_ok {i n : Nat} (h : ¬ badC (i : Int) (n : Int)) (h1 : ds.length = stepsC i n true) : fcV x i n ds = ledC i n true x ds := (if_neg h).trans (if_neg (fun h2 => h2 h1))
theorem fcE_ok {i n : Nat} (h : ¬ badC (i : Int) (n : Int)) (h1 : ds.length = stepsC i n true) : fcE i n ds = 0 := (if_neg h).trans (if_neg (fun h2 => h2 h1))
end
def vcV (x y : Dig) (i n : Int) (ds : List Dig) : Bool := if fcE i n ds = 2 then false else decide (fcE i n ds = 0) && (decide ((fcV x i n ds).1.1 = x.1) && decide ((fcV x i n ds).2.1 = y.1))
def vcE (i n : Int) (ds : List Dig) : Int := if fcE i n ds = 2 then 2 else 0
section
variable {x y : Dig} {i n : Int} {ds : List Dig}
theorem vcV_bad (h : fcE i n ds = 2) : vcV x y i n ds = false := if_pos h
theorem vcE_bad (h : fcE i n ds = 2) : vcE i n ds = 2 := if_pos h
theorem vcE_ok (h : ¬ fcE i n ds = 2) : vcE i n ds = 0 := if_neg h
theorem vcV_e (h : ¬ fcE i n ds = 2) (h0 : ¬ fcE i n ds = 0) : vcV x y i n ds = false := by unfold vcV; rw [if_neg h, decide_eq_false h0]; rfl
theorem vcV_o (h : ¬ fcE i n ds = 2) (h0 : ¬ (fcV x i n ds).1.1 = x.1) : vcV x y i n ds = false := by unfold vcV; rw [if_neg h, decide_eq_false h0, Bool.false_and, Bool.and_false]
theorem vcV_y (h : ¬ fcE i n ds = 2) (h0 : fcE i n ds = 0) (h1 : (fcV x i n ds).1.1 = x.1) : vcV x y i n ds = decide ((fcV x i n ds).2.1 = y.1) := by unfold vcV; rw [if_neg h, decide_eq_true h0, decide_eq_true h1, Bool.true_and, Bool.true_and]
end
theorem over_le : ∀ ds : List Dig, (overR ds).length ≤ ds.length := by
  suffices h : ∀ (f : Nat) (ds : List Dig), ds.length ≤ f → (overR ds).length ≤ ds.length from fun ds => h ds.length ds (Nat.le_refl _)
  intro f
  induction f with
  | zero =>
    intro ds hf
    obtain rfl := List.eq_nil_of_length_eq_zero (Nat.le_zero.1 hf)
    rw [overR_nil]; exact Nat.le_refl _
  | succ f ih =>
    intro ds hf
    rcases Nat.eq_zero_or_pos ds.length with h0 | h0
    · obtain rfl := List.eq_nil_of_length_eq_zero h0
      rw [overR_nil]; exact Nat.le_refl _
    · have hp := bel_pos (ds.length + 1)
      have hdl : (ds.drop (bel (ds.length + 1))).length = ds.length - bel (ds.length + 1) := List.length_drop
      rw [overR_cons h0, List.length_cons]
      have := ih (ds.drop (bel (ds.length + 1))) (by omega)
      omega
theorem onesR_le : ∀ n : Nat, onesR n ≤ n := by
  intro n
  induction n using Nat.strongRecOn with
  | _ n ih =>
    by_cases h : n = 0
    · rw [h, onesR_zero]; exact Nat.le_refl _
    · rw [onesR_pos h]
      have := ih (n / 2) (by omega)
      omega
def pkV (ds : List Dig) : List Dig := if 1024 < ds.length then [] else overR ds
def pkE (ds : List Dig) : Int := if 1024 < ds.length then 4 else 0
section
variable {ds : List Dig}
theorem pkV_gr (h : 1024 < ds.length) : pkV ds = [] := if_pos h
theorem pkE_gr (h : 1024 < ds.length) : pkE ds = 4 := if_pos h
theorem pkV_ok (h : ¬ 1024 < ds.length) : pkV ds = overR ds := if_neg h
theorem pkE_ok (h : ¬ 1024 < ds.length) : pkE ds = 0 := if_neg h
end
def badA (ds : List Dig) (n : Int) : Prop := n < 0 ∨ 1024 ≤ n ∨ ds.length ≠ onesR n.toNat
instance (ds : List Dig) (n : Int) : Decidable (badA ds n) := inferInstanceAs (Decidable (_ ∨ _))
def apV (ds : List Dig) (n : Int) (x : Dig) : List Dig := if badA ds n then [] else withR ds n.toNat x
def apE (ds : List Dig) (n : Int) : Int := if badA ds n then 2 else 0
section
variable {ds : List Dig} {n : Int} {x : Dig}
theorem apV_bad (h : badA ds n) : apV ds n x = [] := if_pos h
theorem apE_bad (h : badA ds n) : apE ds n = 2 := if_pos h
theorem apV_ok (h : ¬ badA ds n) : apV ds n x = withR ds n.toNat x := if_neg h
theorem apE_ok (h : ¬ badA ds n) : apE ds n = 0 := if_neg h
end

theorem rcProofLen_any (i n : Int) (hib : -9223372036854775808 ≤ i ∧ i ≤ 9223372036854775807) (hnb : -9223372036854775808 ≤ n ∧ n ≤ 9223372036854775807) (w : World) :
    Calls Tryd.prog 152 #[.int .i64 i, .int .i64 n] w (Ret w (fun v _ => v = .tuple #[.int .i64 (pcV i n : Int), .int .i64 (pcE i n)])) := by
  refine enter (vs := [.int .i64 i, .int .i64 n]) Tryd.func152 rfl Tryd.ntmps152 rfl ?_
  refine JC.seq ?_
  refine JC.region ?_
  refine JL.asg ?_
  refine JL.asg ?_
  refine JL.nil ?_
  refine JQ.thenN ?_
  refine JC.seq ?_
  refine JC.seq ?_
  refine JC.region ?_
  refine JL.mv ?_
  refine JL.val rfl rfl rfl (.none rfl) (Ev.bin rfl rfl lss_int) ?_
  refine JL.mv ?_
  refine JL.split (d := 8) rfl (fun hg1 => ?_) (fun hg1 => ?_)
  · -- guard 8 true
    have hbad : badC i n := .inl (by have := of_decide_eq_true hg1; omega)
    refine JL.skip rfl rfl (.noF rfl rfl rfl) ?_
    refine JL.skip rfl rfl (.noF rfl rfl rfl) ?_
    refine JL.val rfl rfl rfl (.none rfl) (Ev.pickT rfl rfl) ?_
    refine JL.mv ?_
    refine JL.skip rfl rfl (.noF rfl rfl rfl) ?_
    refine JL.skip rfl rfl (.noF rfl rfl rfl) ?_
    refine JL.val rfl rfl rfl (.none rfl) (Ev.pickT rfl rfl) ?_
    refine JL.mv ?_
    refine JL.skip rfl rfl (.noF rfl rfl rfl) ?_
    refine JL.skip rfl rfl (.noF rfl rfl rfl) ?_
    refine JL.skip rfl rfl (.noF rfl rfl rfl) ?_
    refine JL.val rfl rfl rfl (.none rfl) (Ev.pickT rfl rfl) ?_
    refine JL.nil ?_
    refine JQ.thenN ?_
    refine JC.condT rfl ?_
    refine JC.seq ?_
    refine JC.region ?_
    refine JL.asg ?_
    refine JL.asg ?_
    refine JL.nil ?_
    refine JQ.thenN ?_
    refine JC.ret ?_
    refine JQ.thenR ?_
    refine JQ.end2 (H' := []) (.inl rfl) rfl (.tmp rfl) (.tmp rfl) ?_ ?_
    · exact Sub.k
    · rw [pcV_bad hbad, pcE_bad hbad]; rfl
  · -- guard 8 false
    have hg1 := of_decide_eq_false hg1
    refine JL.val rfl rfl rfl (.yes rfl rfl rfl) (Ev.move rfl) ?_
    refine JL.val rfl rfl rfl (.yes rfl rfl rfl) (Ev.bin rfl rfl gtr_int) ?_
    refine JL.val rfl rfl rfl (.none rfl) (Ev.pickF rfl rfl) ?_
    refine JL.mv ?_
    refine JL.split (d := 12) rfl (fun hg2 => ?_) (fun hg2 => ?_)
    · -- guard 12 true
      have hbad : badC i n := .inr (.inl (by have := of_decide_eq_true hg2; omega))
      refine JL.skip rfl rfl (.noF rfl rfl rfl) ?_
      refine JL.skip rfl rfl (.noF rfl rfl rfl) ?_
      refine JL.val rfl rfl rfl (.none rfl) (Ev.pickT rfl rfl) ?_
      refine JL.mv ?_
      refine JL.skip rfl rfl (.noF rfl rfl rfl) ?_
      refine JL.skip rfl rfl (.noF rfl rfl rfl) ?_
      refine JL.skip rfl rfl (.noF rfl rfl rfl) ?_
      refine JL.val rfl rfl rfl (.none rfl) (Ev.pickT rfl rfl) ?_
      refine JL.nil ?_
      refine JQ.thenN ?_
      refine JC.condT rfl ?_
      refine JC.seq ?_
      refine JC.region ?_
      refine JL.asg ?_
      refine JL.asg ?_
      refine JL.nil ?_
      refine JQ.thenN ?_
      refine JC.ret ?_
      refine JQ.thenR ?_
      refine JQ.end2 (H' := []) (.inl rfl) rfl (.tmp rfl) (.tmp rfl) ?_ ?_
      · exact Sub.k
      · rw [pcV_bad hbad, pcE_bad hbad]; rfl
    · -- guard 12 false
      have hg2 := of_decide_eq_false hg2
      refine JL.val rfl rfl rfl (.yes rfl rfl rfl) (Ev.move rfl) ?_
      refine JL.val rfl rfl rfl (.yes rfl rfl rfl) (Ev.bin rfl rfl lss_int) ?_
      refine JL.val rfl rfl rfl (.none rfl) (Ev.pickF rfl rfl) ?_
      refine JL.mv ?_
      refine JL.split (d := 16) rfl (fun hg3 => ?_) (fun hg3 => ?_)
      · -- guard 16 true
        have hbad : badC i n := .inr (.inr (.inl (by have := of_decide_eq_true hg3; omega)))
        refine JL.skip rfl rfl (.noF rfl rfl rfl) ?_
        refine JL.skip rfl rfl (.noF rfl rfl rfl) ?_
        refine JL.skip rfl rfl (.noF rfl rfl rfl) ?_
        refine JL.val rfl rfl rfl (.none rfl) (Ev.pickT rfl rfl) ?_
        refine JL.nil ?_
        refine JQ.thenN ?_
        refine JC.condT rfl ?_
        refine JC.seq ?_
        refine JC.region ?_
        refine JL.asg ?_
        refine JL.asg ?_
        refine JL.nil ?_
        refine JQ.thenN ?_
        refine JC.ret ?_
        refine JQ.thenR ?_
        refine JQ.end2 (H' := []) (.inl rfl) rfl (.tmp rfl) (.tmp rfl) ?_ ?_
        · exact Sub.k
        · rw [pcV_bad hbad, pcE_bad hbad]; rfl
      · -- guard 16 false
        have hg3 := of_decide_eq_false hg3
        refine JL.val rfl rfl rfl (.yes rfl rfl rfl) (Ev.move rfl) ?_
        refine JL.val rfl rfl rfl (.yes rfl rfl rfl) (Ev.move rfl) ?_
        refine JL.val rfl rfl rfl (.yes rfl rfl rfl) (Ev.bin rfl rfl gtr_int) ?_
        refine JL.val rfl rfl rfl (.none rfl) (Ev.pickF rfl rfl) ?_
        refine JL.nil ?_
        refine JQ.thenN ?_
        refine JC.cond rfl (fun hc1 => ?_) (fun hc1 => ?_)
        · -- t20 True
          replace hc1 := of_decide_eq_true hc1
          have hbad : badC i n := .inr (.inr (.inr (by omega)))
          refine JC.seq ?_
          refine JC.region ?_
          refine JL.asg ?_
          refine JL.asg ?_
          refine JL.nil ?_
          refine JQ.thenN ?_
          refine JC.ret ?_
          refine JQ.thenR ?_
          refine JQ.end2 (H' := []) (.inl rfl) rfl (.tmp rfl) (.tmp rfl) ?_ ?_
          · exact Sub.k
          · rw [pcV_bad hbad, pcE_bad hbad]; rfl
        · -- t20 False
          replace hc1 := of_decide_eq_false hc1
          have hok : ¬ badC i n := by unfold badC; omega
          obtain ⟨I, rfl⟩ : ∃ m : Nat, i = (m : Int) := ⟨i.toNat, by omega⟩
          obtain ⟨N, rfl⟩ : ∃ m : Nat, n = (m : Int) := ⟨n.toNat, by omega⟩
          have hin : 1 ≤ I ∧ I ≤ N ∧ N ≤ 1024 := by omega
          refine JC.skip ?_
          refine JQ.thenN ?_
          refine JC.seq ?_
          refine JC.region ?_
          refine JL.mv ?_
          refine JL.mv ?_
          refine JL.callV rfl (.none rfl) rfl Tryd.call170 (fun w1 hw1 => stepsC_any I N true w1 hin.1 hin.2.1 hin.2.2) ?_
          refine JL.asg ?_
          refine JL.asg ?_
          refine JL.nil ?_
          refine JQ.thenN ?_
          refine JC.ret ?_
          refine JQ.end2 (H' := []) (.inl rfl) rfl (.tmp rfl) (.tmp rfl) ?_ ?_
          · exact Sub.k
          · rw [pcV_ok hok, pcE_ok hok]

theorem rcFollow_any (x : Dig) (i n : Int) (hib : -9223372036854775808 ≤ i ∧ i ≤ 9223372036854775807) (hnb : -9223372036854775808 ≤ n ∧ n ≤ 9223372036854775807) (oa : Option Addr) (cap : Nat) (ds : List Dig) (w : World) (hd : Dl w oa cap ds) :
    Calls Tryd.prog 123 #[.int .i64 i, .int .i64 n, .agg (arr8 x.1), .slice oa ds.length cap] w (Ret w (fun v _ => v = .tuple #[.agg (arr8 (fcV x i n ds).1.1), .agg (arr8 (fcV x i n ds).2.1), .int .i64 (fcE i n ds)])) := by
  refine enter (vs := [.int .i64 i, .int .i64 n, .agg (arr8 x.1), .slice oa ds.length cap]) Tryd.func123 rfl Tryd.ntmps123 rfl ?_
  refine JC.seq ?_
  refine JC.region ?_
  refine JL.new rfl rfl rfl (.none rfl) (En.boxA rfl) (fun b6 hb6 => ?_)
  refine JL.new rfl rfl rfl (.none rfl) (En.allocZ (cs := arr8 (List.replicate 32 0)) Tryd.zeroValue33 rfl) (fun b8 hb8 => ?_)
  refine JL.new rfl rfl rfl (.none rfl) (En.allocZ (cs := arr8 (List.replicate 32 0)) Tryd.zeroValue33 rfl) (fun b9 hb9 => ?_)
  refine JL.asg ?_
  refine JL.nil ?_
  refine JQ.thenN ?_
  refine JC.seq ?_
  refine JC.region ?_
  refine JL.mv ?_
  refine JL.mv ?_
  refine JL.callV rfl (.none rfl) rfl Tryd.call152 (fun w1 hw1 => rcProofLen_any i n hib hnb w1) ?_
  refine JL.mv ?_
  refine JL.val rfl rfl rfl (.none rfl) (Ev.ex0 rfl) ?_
  refine JL.val rfl rfl rfl (.none rfl) (Ev.ex1 rfl) ?_
  refine JL.asg ?_
  refine JL.asg ?_
  refine JL.nil ?_
  refine JQ.thenN ?_
  refine JC.seq ?_
  refine JC.seq ?_
  refine JC.region ?_
  refine JL.mv ?_
  refine JL.val rfl rfl rfl (.none rfl) (Ev.bin rfl rfl neq_int) ?_
  refine JL.nil ?_
  refine JQ.thenN ?_
  refine JC.cond rfl (fun hc1 => ?_) (fun hc1 => ?_)
  · -- t22 True
    have hbad : badC i n := Classical.byContradiction fun h => by rw [pcE_ok h] at hc1; simp at hc1
    refine JC.seq ?_
    refine JC.region ?_
    refine JL.val rfl rfl rfl (.none rfl) (Ev.bu0 Tryd.underlying33 Tryd.sizeOf5 Tryd.zeroValue33) ?_
    refine JL.val rfl rfl rfl (.none rfl) (Ev.bu0 Tryd.underlying33 Tryd.sizeOf5 Tryd.zeroValue33) ?_
    refine JL.mv ?_
    refine JL.sto rfl rfl (.none rfl) (Es.sA Tryd.sizeOf33) ?_
    refine JL.sto rfl rfl (.none rfl) (Es.sA Tryd.sizeOf33) ?_
    refine JL.asg ?_
    refine JL.nil ?_
    refine JQ.thenN ?_
    refine JC.ret ?_
    refine JQ.thenR ?_
    refine JQ.end3 (H' := []) (.inl rfl) rfl (.agg rfl memK Tryd.underlying33 rfl Tryd.sizeOf33 szK) (.agg rfl memK Tryd.underlying33 rfl Tryd.sizeOf33 szK) (.tmp rfl) ?_ ?_
    · exact Sub.k
    · first | (rw [fcV_bad hbad, fcE_bad hbad, pcE_bad hbad]; rfl) | (rw [fcV_bad hbad, fcE_bad hbad]; rfl) | (rw [fcV_ne hok hne, fcE_ne hok hne]; rfl) | rw [fcV_ok hok heq, fcE_ok hok heq]
  · -- t22 False
    have hok : ¬ badC i n := fun h => by rw [pcE_bad h] at hc1; simp at hc1
    have hbd := hok
    unfold badC at hbd
    obtain ⟨I, rfl⟩ : ∃ m : Nat, i = (m : Int) := ⟨i.toNat, by omega⟩
    obtain ⟨N, rfl⟩ : ∃ m : Nat, n = (m : Int) := ⟨n.toNat, by omega⟩
    have hin : 1 ≤ I ∧ I ≤ N ∧ N ≤ 1024 := by omega
    refine JC.skip ?_
    refine JQ.thenN ?_
    refine JC.seq ?_
    refine JC.seq ?_
    refine JC.region ?_
    refine JL.mv ?_
    refine JL.val rfl rfl rfl (.none rfl) (Ev.lenS rfl Tryd.underlying39) ?_
    refine JL.mv ?_
    refine JL.val rfl rfl rfl (.none rfl) (Ev.bin rfl rfl neq_int) ?_
    refine JL.nil ?_
    refine JQ.thenN ?_
    refine JC.cond rfl (fun hc2 => ?_) (fun hc2 => ?_)
    · -- t29 True
      have hne : ds.length ≠ stepsC I N true := fun h => by rw [pcV_ok hok, ← h] at hc2; simp at hc2
      refine JC.seq ?_
      refine JC.region ?_
      refine JL.val rfl rfl rfl (.none rfl) (Ev.bu0 Tryd.underlying33 Tryd.sizeOf5 Tryd.zeroValue33) ?_
      refine JL.val rfl rfl rfl (.none rfl) (Ev.bu0 Tryd.underlying33 Tryd.sizeOf5 Tryd.zeroValue33) ?_
      refine JL.sto rfl rfl (.none rfl) (Es.sA Tryd.sizeOf33) ?_
      refine JL.sto rfl rfl (.none rfl) (Es.sA Tryd.sizeOf33) ?_
      refine JL.asg ?_
      refine JL.nil ?_
      refine JQ.thenN ?_
      refine JC.ret ?_
      refine JQ.thenR ?_
      refine JQ.end3 (H' := []) (.inl rfl) rfl (.agg rfl memK Tryd.underlying33 rfl Tryd.sizeOf33 szK) (.agg rfl memK Tryd.underlying33 rfl Tryd.sizeOf33 szK) (.tmp rfl) ?_ ?_
      · exact Sub.k
      · first | (rw [fcV_bad hbad, fcE_bad hbad, pcE_bad hbad]; rfl) | (rw [fcV_bad hbad, fcE_bad hbad]; rfl) | (rw [fcV_ne hok hne, fcE_ne hok hne]; rfl) | rw [fcV_ok hok heq, fcE_ok hok heq]
    · -- t29 False
      have heq : ds.length = stepsC I N true := Classical.byContradiction fun h => by rw [pcV_ok hok] at hc2; have := of_decide_eq_false hc2; omega
      refine JC.skip ?_
      refine JQ.thenN ?_
      refine JC.seq ?_
      refine JC.region ?_
      refine JL.mv ?_
      refine JL.mv ?_
      refine JL.val rfl rfl rfl (.none rfl) (Ev.lB Tryd.underlying33 Tryd.sizeOf33) ?_
      refine JL.mv ?_
      refine JL.callV rfl (.none rfl) rfl Tryd.call153 (fun w1 hw1 => ledC_any x I N true oa cap ds w1 hin.1 hin.2.1 hin.2.2 (hd.old hw1) heq) ?_
      refine JL.mv ?_
      refine JL.val rfl rfl rfl (.none rfl) (Ev.ex0 rfl) ?_
      refine JL.val rfl rfl rfl (.none rfl) (Ev.ex1 rfl) ?_
      refine JL.new rfl rfl rfl (.none rfl) (En.allocZ (cs := arr8 (List.replicate 32 0)) Tryd.zeroValue33 rfl) (fun b13 hb13 => ?_)
      refine JL.new rfl rfl rfl (.none rfl) (En.allocZ (cs := arr8 (List.replicate 32 0)) Tryd.zeroValue33 rfl) (fun b14 hb14 => ?_)
      refine JL.sto rfl rfl (.none rfl) (Es.sA Tryd.sizeOf33) ?_
      refine JL.sto rfl rfl (.none rfl) (Es.sA Tryd.sizeOf33) ?_
      refine JL.nil ?_
      refine JQ.thenN ?_
      refine JC.seq ?_
      refine JC.regionA (by kernel_rfl) ?_
      refine JA.branch [0, 1] (by kernel_rfl) rfl ?_
      refine JAll.cons rfl ?_ ?_
      · -- 0
        refine JO.val rfl rfl rfl (.none rfl) (Ev.lB Tryd.underlying33 Tryd.sizeOf33) ?_
        refine JA.branch [1, 2] (by kernel_rfl) rfl ?_
        refine JAll.cons rfl ?_ ?_
        · -- 1
          refine JO.val rfl rfl rfl (.none rfl) (Ev.lB Tryd.underlying33 Tryd.sizeOf33) ?_
          refine JA.one 2 ?_
          refine JO.sto rfl rfl (.none rfl) (Es.sA Tryd.sizeOf33) ?_
          refine JA.one 3 ?_
          refine JO.sto rfl rfl (.none rfl) (Es.sA Tryd.sizeOf33) ?_
          refine JA.tk 4 rfl (.none rfl) (fun _ => (Ev.assign rfl)) ?_
          refine JA.done (by kernel_rfl) ?_
          refine JQ.thenN ?_
          refine JC.ret ?_
          refine JQ.end3 (H' := []) (.inl rfl) rfl (.agg rfl memK Tryd.underlying33 rfl Tryd.sizeOf33 szK) (.agg rfl memK Tryd.underlying33 rfl Tryd.sizeOf33 szK) (.tmp rfl) ?_ ?_
          · exact Sub.k
          · first | (rw [fcV_bad hbad, fcE_bad hbad, pcE_bad hbad]; rfl) | (rw [fcV_bad hbad, fcE_bad hbad]; rfl) | (rw [fcV_ne hok hne, fcE_ne hok hne]; rfl) | rw [fcV_ok hok heq, fcE_ok hok heq]
        refine JAll.cons rfl ?_ JAll.nil
        refine JO.sto rfl rfl (.none rfl) (Es.sA Tryd.sizeOf33) ?_
        refine JA.one 1 ?_
        refine JO.val rfl rfl rfl (.none rfl) (Ev.lB Tryd.underlying33 Tryd.sizeOf33) ?_
        refine JA.one 3 ?_
        refine JO.sto rfl rfl (.none rfl) (Es.sA Tryd.sizeOf33) ?_
        refine JA.tk 4 rfl (.none rfl) (fun _ => (Ev.assign rfl)) ?_
        refine JA.done (by kernel_rfl) ?_
        refine JQ.thenN ?_
        refine JC.ret ?_
        refine JQ.end3 (H' := []) (.inl rfl) rfl (.agg rfl memK Tryd.underlying33 rfl Tryd.sizeOf33 szK) (.agg rfl memK Tryd.underlying33 rfl Tryd.sizeOf33 szK) (.tmp rfl) ?_ ?_
        · exact Sub.k
        · first | (rw [fcV_bad hbad, fcE_bad hbad, pcE_bad hbad]; rfl) | (rw [fcV_bad hbad, fcE_bad hbad]; rfl) | (rw [fcV_ne hok hne, fcE_ne hok hne]; rfl) | rw [fcV_ok hok heq, fcE_ok hok heq]
      refine JAll.cons rfl ?_ JAll.nil
      refine JO.val rfl rfl rfl (.none rfl) (Ev.lB Tryd.underlying33 Tryd.sizeOf33) ?_
      refine JA.one 0 ?_
      refine JO.val rfl rfl rfl (.none rfl) (Ev.lB Tryd.underlying33 Tryd.sizeOf33) ?_
      refine JA.one 2 ?_
      refine JO.sto rfl rfl (.none rfl) (Es.sA Tryd.sizeOf33) ?_
      refine JA.one 3 ?_
      refine JO.sto rfl rfl (.none rfl) (Es.sA Tryd.sizeOf33) ?_
      refine JA.tk 4 rfl (.none rfl) (fun _ => (Ev.assign rfl)) ?_
      refine JA.done (by kernel_rfl) ?_
      refine JQ.thenN ?_
      refine JC.ret ?_
      refine JQ.end3 (H' := []) (.inl rfl) rfl (.agg rfl memK Tryd.underlying33 rfl Tryd.sizeOf33 szK) (.agg rfl memK Tryd.underlying33 rfl Tryd.sizeOf33 szK) (.tmp rfl) ?_ ?_
      · exact Sub.k
      · first | (rw [fcV_bad hbad, fcE_bad hbad, pcE_bad hbad]; rfl) | (rw [fcV_bad hbad, fcE_bad hbad]; rfl) | (rw [fcV_ne hok hne, fcE_ne hok hne]; rfl) | rw [fcV_ok hok heq, fcE_ok hok heq]

theorem rcVerify_any (x y : Dig) (i n : Int) (hib : -9223372036854775808 ≤ i ∧ i ≤ 9223372036854775807) (hnb : -9223372036854775808 ≤ n ∧ n ≤ 9223372036854775807) (oa : Option Addr) (cap : Nat) (ds : List Dig) (w : World) (hd : Dl w oa cap ds) :
    Calls Tryd.prog 87 #[.int .i64 i, .int .i64 n, .agg (arr8 x.1), .agg (arr8 y.1), .slice oa ds.length cap] w (Ret w (fun v _ => v = .tuple #[.bool (vcV x y i n ds), .int .i64 (vcE i n ds)])) := by
  refine enter (vs := [.int .i64 i, .int .i64 n, .agg (arr8 x.1), .agg (arr8 y.1), .slice oa ds.length cap]) Tryd.func87 rfl Tryd.ntmps87 rfl ?_
  refine JC.seq ?_
  refine JC.region ?_
  refine JL.new rfl rfl rfl (.none rfl) (En.boxA rfl) (fun b7 hb7 => ?_)
  refine JL.new rfl rfl rfl (.none rfl) (En.boxA rfl) (fun b8 hb8 => ?_)
  refine JL.asg ?_
  refine JL.asg ?_
  refine JL.nil ?_
  refine JQ.thenN ?_
  refine JC.seq ?_
  refine JC.region ?_
  refine JL.mv ?_
  refine JL.mv ?_
  refine JL.val rfl rfl rfl (.none rfl) (Ev.lB Tryd.underlying33 Tryd.sizeOf33) ?_
  refine JL.mv ?_
  refine JL.callV rfl (.none rfl) rfl Tryd.call123 (fun w1 hw1 => rcFollow_any x i n hib hnb oa cap ds w1 (hd.old hw1)) ?_
  refine JL.mv ?_
  refine JL.val rfl rfl rfl (.none rfl) (Ev.ex0 rfl) ?_
  refine JL.val rfl rfl rfl (.none rfl) (Ev.ex1 rfl) ?_
  refine JL.val rfl rfl rfl (.none rfl) (Ev.ex2 rfl) ?_
  refine JL.new rfl rfl rfl (.none rfl) (En.allocZ (cs := arr8 (List.replicate 32 0)) Tryd.zeroValue33 rfl) (fun b12 hb12 => ?_)
  refine JL.new rfl rfl rfl (.none rfl) (En.allocZ (cs := arr8 (List.replicate 32 0)) Tryd.zeroValue33 rfl) (fun b13 hb13 => ?_)
  refine JL.sto rfl rfl (.none rfl) (Es.sA Tryd.sizeOf33) ?_
  refine JL.sto rfl rfl (.none rfl) (Es.sA Tryd.sizeOf33) ?_
  refine JL.asg ?_
  refine JL.nil ?_
  refine JQ.thenN ?_
  refine JC.seq ?_
  refine JC.seq ?_
  refine JC.region ?_
  refine JL.mv ?_
  refine JL.val rfl rfl rfl (.none rfl) (Ev.bin rfl rfl eql_int) ?_
  refine JL.nil ?_
  refine JQ.thenN ?_
  refine JC.cond rfl (fun hc1 => ?_) (fun hc1 => ?_)
  · -- t25 True
    replace hc1 := of_decide_eq_true hc1
    refine JC.seq ?_
    refine JC.region ?_
    refine JL.mv ?_
    refine JL.asg ?_
    refine JL.asg ?_
    refine JL.nil ?_
    refine JQ.thenN ?_
    refine JC.ret ?_
    refine JQ.thenR ?_
    refine JQ.end2 (H' := []) (.inl rfl) rfl (.tmp rfl) (.tmp rfl) ?_ ?_
    · exact Sub.k
    · first | (rw [vcV_bad hc1, vcE_bad hc1, hc1] <;> rfl) | (rw [vcV_e hc1 hgE, vcE_ok hc1] <;> rfl) | (rw [vcV_o hc1 hgO, vcE_ok hc1] <;> rfl) | (rw [vcV_y hc1 hgE hgO, vcE_ok hc1] <;> rfl)
  · -- t25 False
    replace hc1 := of_decide_eq_false hc1
    refine JC.skip ?_
    refine JQ.thenN ?_
    refine JC.seq ?_
    refine JC.region ?_
    refine JL.mv ?_
    refine JL.val rfl rfl rfl (.none rfl) (Ev.bin rfl rfl eql_int) ?_
    refine JL.mv ?_
    refine JL.split (d := 29) rfl (fun hgE => ?_) (fun hgE => ?_)
    · -- guard 29 true
      have hgE := of_decide_eq_true hgE
      refine JL.val rfl rfl rfl (.yes rfl rfl rfl) (Ev.lB Tryd.underlying33 Tryd.sizeOf33) ?_
      refine JL.val rfl rfl rfl (.yes rfl rfl rfl) (Ev.lB Tryd.underlying33 Tryd.sizeOf33) ?_
      refine JL.val rfl rfl rfl (.yes rfl rfl rfl) (Ev.bin rfl rfl (eql_arr8 (n := 32) Tryd.underlying33 Tryd.underlying5 (by kernel_rfl) (by kernel_rfl) (by first | rfl | exact dig_len _ | assumption | exact sha_length _ | exact shaO_length _) (by first | rfl | exact dig_len _ | assumption | exact sha_length _ | exact shaO_length _))) ?_
      refine JL.val rfl rfl rfl (.none rfl) (Ev.pickT rfl rfl) ?_
      refine JL.mv ?_
      refine JL.split (d := 34) rfl (fun hgO => ?_) (fun hgO => ?_)
      · -- guard 34 true
        have hgO := of_decide_eq_true hgO
        refine JL.val rfl rfl rfl (.yes rfl rfl rfl) (Ev.lB Tryd.underlying33 Tryd.sizeOf33) ?_
        refine JL.val rfl rfl rfl (.yes rfl rfl rfl) (Ev.lB Tryd.underlying33 Tryd.sizeOf33) ?_
        refine JL.val rfl rfl rfl (.yes rfl rfl rfl) (Ev.bin rfl rfl (eql_arr8 (n := 32) Tryd.underlying33 Tryd.underlying5 (by kernel_rfl) (by kernel_rfl) (by first | rfl | exact dig_len _ | assumption | exact sha_length _ | exact shaO_length _) (by first | rfl | exact dig_len _ | assumption | exact sha_length _ | exact shaO_length _))) ?_
        refine JL.val rfl rfl rfl (.none rfl) (Ev.pickT rfl rfl) ?_
        refine JL.asg ?_
        refine JL.asg ?_
        refine JL.nil ?_
        refine JQ.thenN ?_
        refine JC.ret ?_
        refine JQ.end2 (H' := []) (.inl rfl) rfl (.tmp rfl) (.tmp rfl) ?_ ?_
        · exact Sub.k
        · first | (rw [vcV_bad hc1, vcE_bad hc1, hc1] <;> rfl) | (rw [vcV_e hc1 hgE, vcE_ok hc1] <;> rfl) | (rw [vcV_o hc1 hgO, vcE_ok hc1] <;> rfl) | (rw [vcV_y hc1 hgE hgO, vcE_ok hc1] <;> rfl)
      · -- guard 34 false
        have hgO := of_decide_eq_false hgO
        refine JL.skip rfl rfl (.noT rfl rfl rfl) ?_
        refine JL.skip rfl rfl (.noT rfl rfl rfl) ?_
        refine JL.skip rfl rfl (.noT rfl rfl rfl) ?_
        refine JL.val rfl rfl rfl (.none rfl) (Ev.pickF rfl rfl) ?_
        refine JL.asg ?_
        refine JL.asg ?_
        refine JL.nil ?_
        refine JQ.thenN ?_
        refine JC.ret ?_
        refine JQ.end2 (H' := []) (.inl rfl) rfl (.tmp rfl) (.tmp rfl) ?_ ?_
        · exact Sub.k
        · first | (rw [vcV_bad hc1, vcE_bad hc1, hc1] <;> rfl) | (rw [vcV_e hc1 hgE, vcE_ok hc1] <;> rfl) | (rw [vcV_o hc1 hgO, vcE_ok hc1] <;> rfl) | (rw [vcV_y hc1 hgE hgO, vcE_ok hc1] <;> rfl)
    · -- guard 29 false
      have hgE := of_decide_eq_false hgE
      refine JL.skip rfl rfl (.noT rfl rfl rfl) ?_
      refine JL.skip rfl rfl (.noT rfl rfl rfl) ?_
      refine JL.skip rfl rfl (.noT rfl rfl rfl) ?_
      refine JL.val rfl rfl rfl (.none rfl) (Ev.pickF rfl rfl) ?_
      refine JL.mv ?_
      refine JL.skip rfl rfl (.noT rfl rfl rfl) ?_
      refine JL.skip rfl rfl (.noT rfl rfl rfl) ?_
      refine JL.skip rfl rfl (.noT rfl rfl rfl) ?_
      refine JL.val rfl rfl rfl (.none rfl) (Ev.pickF rfl rfl) ?_
      refine JL.asg ?_
      refine JL.asg ?_
      refine JL.nil ?_
      refine JQ.thenN ?_
      refine JC.ret ?_
      refine JQ.end2 (H' := []) (.inl rfl) rfl (.tmp rfl) (.tmp rfl) ?_ ?_
      · exact Sub.k
      · first | (rw [vcV_bad hc1, vcE_bad hc1, hc1] <;> rfl) | (rw [vcV_e hc1 hgE, vcE_ok hc1] <;> rfl) | (rw [vcV_o hc1 hgO, vcE_ok hc1] <;> rfl) | (rw [vcV_y hc1 hgE hgO, vcE_ok hc1] <;> rfl)

end Go.Proofs.YtopaednfjjjnbaaDoor
