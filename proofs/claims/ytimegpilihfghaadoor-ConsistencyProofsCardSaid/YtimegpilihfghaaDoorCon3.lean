/-
  Consistency in the reference: verifying; peaks, appending, the root of peaks.
-/
import Derived.Test.YtimegpilihfghaaDoorCon2
namespace Go.Proofs.YtimegpilihfghaaDoor
open Go Go.RowKit
set_option maxRecDepth 100000

def badC (i n : Int) : Prop := n < 1 ∨ 1024 < n ∨ i < 1 ∨ n < i
instance (i n : Int) : Decidable (badC i n) := inferInstanceAs (Decidable (_ ∨ _))
def pcV (i n : Int) : Nat := if badC i n then 0 else stepsC i.toNat n.toNat true
def pcE (i n : Int) : Int := if badC i n then 2 else 0
theorem pcV_bad {i n : Int} (h : badC i n) : pcV i n = 0 := if_pos h
theorem pcE_bad {i n : Int} (h : badC i n) : pcE i n = 2 := if_pos h
theorem pcV_ok {i n : Nat} (h : ¬ badC (i : Int) (n : Int)) : pcV i n = stepsC i n true := if_neg h
theorem pcE_ok {i n : Int} (h : ¬ badC i n) : pcE i n = 0 := if_neg h
def fcV (x : Dig) (i n : Int) (ds : List Dig) : Dig × Dig := if badC i n then (zeroD, zeroD) else if ds.length ≠ stepsC i.toNat n.toNat true then (zeroD, zeroD) else ledC i.toNat n.toNat true x ds
def fcE (i n : Int) (ds : List Dig) : Int := if badC i n then 2 else if ds.length ≠ stepsC i.toNat n.toNat true then 290 else 0
section
variable {x : Dig} {ds : List Dig}
theorem fcV_bad {i n : Int} (h : badC i n) : fcV x i n ds = (zeroD, zeroD) := if_pos h
theorem fcE_bad {i n : Int} (h : badC i n) : fcE i n ds = 2 := if_pos h
theorem fcV_ne {i n : Nat} (h : ¬ badC (i : Int) (n : Int)) (h1 : ds.length ≠ stepsC i n true) : fcV x i n ds = (zeroD, zeroD) := (if_neg h).trans (if_pos h1)
theorem fcE_ne {i n : Nat} (h : ¬ badC (i : Int) (n : Int)) (h1 : ds.length ≠ stepsC i n true) : fcE i n ds = 290 := (if_neg h).trans (if_pos h1)
theorem fcV_ok {i n : Nat} (h : ¬ badC (i : Int) (n : Int)) (h1 : ds.length = stepsC i n true) : fcV x i n ds = ledC i n true x ds := (if_neg h).trans (if_neg (fun h2 => h2 h1))
theorem fcE_ok {i n : Nat} (h : ¬ badC (i : Int) (n : Int)) (h1 : ds.length = stepsC i n true) : fcE i n ds = 0 := (if_neg h).trans (if_neg (fun h2 => h2 h1))
end
def vcV (x y : Dig) (i n : Int) (ds : List Dig) : Bool := if fcE i n ds = 2 then false else decide (fcE i n ds = 0) && (decide ((fcV x i n ds).1.1 = x.1) && decide ((fcV x i n ds).2.1 = y.1))
def vcE (i n : Int) (ds : List Dig) : Int := if fcE i n ds = 2 then 2 else 0
section
variable {x y : Dig} {i n : Int} {ds : List Dig}
theorem vcV_bad (h : fcE i n ds = 2) : vcV x y i n ds = false := if_pos h
theorem vcE_bad (h : fcE i n ds = 2) : vcE i n ds = 2 := if_pos h
theorem vcE_ok (h : ¬ fcE i n ds = 2) : vcE i n ds = 0 := if_neg h
theorem vcV_e (h : ¬ fcE i n ds = 2) (h0 : ¬ fcE i n ds = 0) : vcV x y i n ds = false := by unfold vcV; rw [if_neg h, decide_eq_false h0]; rfl
theorem vcV_o (h : ¬ fcE i n ds = 2) (h0 : ¬ (fcV x i n ds).1.1 = x.1) : vcV x y i n ds = false := by unfold vcV; rw [if_neg h, decide_eq_false h0, Bool.false_and, Bool.and_false]
theorem vcV_y (h : ¬ fcE i n ds = 2) (h0 : fcE i n ds = 0) (h1 : (fcV x i n ds).1.1 = x.1) : vcV x y i n ds = decide ((fcV x i n ds).2.1 = y.1) := by unfold vcV; rw [if_neg h, decide_eq_true h0, decide_eq_true h1, Bool.true_and, Bool.true_and]
end
theorem over_le : ∀ ds : List Dig, (overR ds).length ≤ ds.length := by
  suffices h : ∀ (f : Nat) (ds : List Dig), ds.length ≤ f → (overR ds).length ≤ ds.length from fun ds => h ds.length ds (Nat.le_refl _)
  intro f
  induction f with
  | zero =>
    intro ds hf
    obtain rfl := List.eq_nil_of_length_eq_zero (Nat.le_zero.1 hf)
    rw [overR_nil]; exact Nat.le_refl _
  | succ f ih =>
    intro ds hf
    rcases Nat.eq_zero_or_pos ds.length with h0 | h0
    · obtain rfl := List.eq_nil_of_length_eq_zero h0
      rw [overR_nil]; exact Nat.le_refl _
    · have hp := bel_pos (ds.length + 1)
      have hdl : (ds.drop (bel (ds.length + 1))).length = ds.length - bel (ds.length + 1) := List.length_drop
      rw [overR_cons h0, List.length_cons]
      have := ih (ds.drop (bel (ds.length + 1))) (by omega)
      omega
theorem onesR_le : ∀ n : Nat, onesR n ≤ n := by
  intro n
  induction n using Nat.strongRecOn with
  | _ n ih =>
    by_cases h : n = 0
    · rw [h, onesR_zero]; exact Nat.le_refl _
    · rw [onesR_pos h]
      have := ih (n / 2) (by omega)
      omega
def pkV (ds : List Dig) : List Dig := if 1024 < ds.length then [] else overR ds
def pkE (ds : List Dig) : Int := if 1024 < ds.length then 4 else 0
section
variable {ds : List Dig}
theorem pkV_gr (h : 1024 < ds.length) : pkV ds = [] := if_pos h
theorem pkE_gr (h : 1024 < ds.length) : pkE ds = 4 := if_pos h
theorem pkV_ok (h : ¬ 1024 < ds.length) : pkV ds = overR ds := if_neg h
theorem pkE_ok (h : ¬ 1024 < ds.length) : pkE ds = 0 := if_neg h
end
def badA (ds : List Dig) (n : Int) : Prop := n < 0 ∨ 1024 ≤ n ∨ ds.length ≠ onesR n.toNat
instance (ds : List Dig) (n : Int) : Decidable (badA ds n) := inferInstanceAs (Decidable (_ ∨ _))
def apV (ds : List Dig) (n : Int) (x : Dig) : List Dig := if badA ds n then [] else withR ds n.toNat x
def apE (ds : List Dig) (n : Int) : Int := if badA ds n then 2 else 0
section
variable {ds : List Dig} {n : Int} {x : Dig}
theorem apV_bad (h : badA ds n) : apV ds n x = [] := if_pos h
theorem apE_bad (h : badA ds n) : apE ds n = 2 := if_pos h
theorem apV_ok (h : ¬ badA ds n) : apV ds n x = withR ds n.toNat x := if_neg h
theorem apE_ok (h : ¬ badA ds n) : apE ds n = 0 := if_neg h
end

theorem rcProofLen_any (i n : Int) (hib : -9223372036854775808 ≤ i ∧ i ≤ 9223372036854775807) (hnb : -9223372036854775808 ≤ n ∧ n ≤ 9223372036854775807) (w : World) :
    Calls Tryd.prog 20 #[.int .i64 i, .int .i64 n] w (Ret w (fun v _ => v = .tuple #[.int .i64 (pcV i n : Int), .int .i64 (pcE i n)])) := by
  refine enter (vs := [.int .i64 i, .int .i64 n]) Tryd.func20 rfl Tryd.ntmps20 rfl ?_
  refine JC.seq ?_
  refine JC.region ?_
  refine JL.asg ?_
  refine JL.asg ?_
  refine JL.nil ?_
  refine JQ.thenN ?_
  refine JC.seq ?_
  refine JC.seq ?_
  refine JC.region ?_
  refine JL.mv ?_
  refine JL.val rfl rfl rfl (.none rfl) (Ev.bin rfl rfl lss_int) ?_
  refine JL.mv ?_
  refine JL.split (d := 8) rfl (fun hg1 => ?_) (fun hg1 => ?_)
  · -- guard 8 true
    have hbad : badC i n := .inl (by have := of_decide_eq_true hg1; omega)
    refine JL.skip rfl rfl (.noF rfl rfl rfl) ?_
    refine JL.skip rfl rfl (.noF rfl rfl rfl) ?_
    refine JL.val rfl rfl rfl (.none rfl) (Ev.pickT rfl rfl) ?_
    refine JL.mv ?_
    refine JL.skip rfl rfl (.noF rfl rfl rfl) ?_
    refine JL.skip rfl rfl (.noF rfl rfl rfl) ?_
    refine JL.val rfl rfl rfl (.none rfl) (Ev.pickT rfl rfl) ?_
    refine JL.mv ?_
    refine JL.skip rfl rfl (.noF rfl rfl rfl) ?_
    refine JL.skip rfl rfl (.noF rfl rfl rfl) ?_
    refine JL.skip rfl rfl (.noF rfl rfl rfl) ?_
    refine JL.val rfl rfl rfl (.none rfl) (Ev.pickT rfl rfl) ?_
    refine JL.nil ?_
    refine JQ.thenN ?_
    refine JC.condT rfl ?_
    refine JC.seq ?_
    refine JC.region ?_
    refine JL.asg ?_
    refine JL.asg ?_
    refine JL.nil ?_
    refine JQ.thenN ?_
    refine JC.ret ?_
    refine JQ.thenR ?_
    refine JQ.end2 (H' := []) (.inl rfl) rfl (.tmp rfl) (.tmp rfl) ?_ ?_
    · exact Sub.k
    · rw [pcV_bad hbad, pcE_bad hbad]; rfl
  · -- guard 8 false
    have hg1 := of_decide_eq_false hg1
    refine JL.val rfl rfl rfl (.yes rfl rfl rfl) (Ev.move rfl) ?_
    refine JL.val rfl rfl rfl (.yes rfl rfl rfl) (Ev.bin rfl rfl gtr_int) ?_
    refine JL.val rfl rfl rfl (.none rfl) (Ev.pickF rfl rfl) ?_
    refine JL.mv ?_
    refine JL.split (d := 12) rfl (fun hg2 => ?_) (fun hg2 => ?_)
    · -- guard 12 true
      have hbad : badC i n := .inr (.inl (by have := of_decide_eq_true hg2; omega))
      refine JL.skip rfl rfl (.noF rfl rfl rfl) ?_
      refine JL.skip rfl rfl (.noF rfl rfl rfl) ?_
      refine JL.val rfl rfl rfl (.none rfl) (Ev.pickT rfl rfl) ?_
      refine JL.mv ?_
      refine JL.skip rfl rfl (.noF rfl rfl rfl) ?_
      refine JL.skip rfl rfl (.noF rfl rfl rfl) ?_
      refine JL.skip rfl rfl (.noF rfl rfl rfl) ?_
      refine JL.val rfl rfl rfl (.none rfl) (Ev.pickT rfl rfl) ?_
      refine JL.nil ?_
      refine JQ.thenN ?_
      refine JC.condT rfl ?_
      refine JC.seq ?_
      refine JC.region ?_
      refine JL.asg ?_
      refine JL.asg ?_
      refine JL.nil ?_
      refine JQ.thenN ?_
      refine JC.ret ?_
      refine JQ.thenR ?_
      refine JQ.end2 (H' := []) (.inl rfl) rfl (.tmp rfl) (.tmp rfl) ?_ ?_
      · exact Sub.k
      · rw [pcV_bad hbad, pcE_bad hbad]; rfl
    · -- guard 12 false
      have hg2 := of_decide_eq_false hg2
      refine JL.val rfl rfl rfl (.yes rfl rfl rfl) (Ev.move rfl) ?_
      refine JL.val rfl rfl rfl (.yes rfl rfl rfl) (Ev.bin rfl rfl lss_int) ?_
      refine JL.val rfl rfl rfl (.none rfl) (Ev.pickF rfl rfl) ?_
      refine JL.mv ?_
      refine JL.split (d := 16) rfl (fun hg3 => ?_) (fun hg3 => ?_)
      · -- guard 16 true
        have hbad : badC i n := .inr (.inr (.inl (by have := of_decide_eq_true hg3; omega)))
        refine JL.skip rfl rfl (.noF rfl rfl rfl) ?_
        refine JL.skip rfl rfl (.noF rfl rfl rfl) ?_
        refine JL.skip rfl rfl (.noF rfl rfl rfl) ?_
        refine JL.val rfl rfl rfl (.none rfl) (Ev.pickT rfl rfl) ?_
        refine JL.nil ?_
        refine JQ.thenN ?_
        refine JC.condT rfl ?_
        refine JC.seq ?_
        refine JC.region ?_
        refine JL.asg ?_
        refine JL.asg ?_
        refine JL.nil ?_
        refine JQ.thenN ?_
        refine JC.ret ?_
        refine JQ.thenR ?_
        refine JQ.end2 (H' := []) (.inl rfl) rfl (.tmp rfl) (.tmp rfl) ?_ ?_
        · exact Sub.k
        · rw [pcV_bad hbad, pcE_bad hbad]; rfl
      · -- guard 16 false
        have hg3 := of_decide_eq_false hg3
        refine JL.val rfl rfl rfl (.yes rfl rfl rfl) (Ev.move rfl) ?_
        refine JL.val rfl rfl rfl (.yes rfl rfl rfl) (Ev.move rfl) ?_
        refine JL.val rfl rfl rfl (.yes rfl rfl rfl) (Ev.bin rfl rfl gtr_int) ?_
        refine JL.val rfl rfl rfl (.none rfl) (Ev.pickF rfl rfl) ?_
        refine JL.nil ?_
        refine JQ.thenN ?_
        refine JC.cond rfl (fun hc1 => ?_) (fun hc1 => ?_)
        · -- t20 True
          replace hc1 := of_decide_eq_true hc1
          have hbad : badC i n := .inr (.inr (.inr (by omega)))
          refine JC.seq ?_
          refine JC.region ?_
          refine JL.asg ?_
          refine JL.asg ?_
          refine JL.nil ?_
          refine JQ.thenN ?_
          refine JC.ret ?_
          refine JQ.thenR ?_
          refine JQ.end2 (H' := []) (.inl rfl) rfl (.tmp rfl) (.tmp rfl) ?_ ?_
          · exact Sub.k
          · rw [pcV_bad hbad, pcE_bad hbad]; rfl
        · -- t20 False
          replace hc1 := of_decide_eq_false hc1
          have hok : ¬ badC i n := by unfold badC; omega
          obtain ⟨I, rfl⟩ : ∃ m : Nat, i = (m : Int) := ⟨i.toNat, by omega⟩
          obtain ⟨N, rfl⟩ : ∃ m : Nat, n = (m : Int) := ⟨n.toNat, by omega⟩
          have hin : 1 ≤ I ∧ I ≤ N ∧ N ≤ 1024 := by omega
          refine JC.skip ?_
          refine JQ.thenN ?_
          refine JC.seq ?_
          refine JC.region ?_
          refine JL.mv ?_
          refine JL.mv ?_
          refine JL.callV rfl (.none rfl) rfl Tryd.call43 (fun w1 hw1 => stepsC_any I N true w1 hin.1 hin.2.1 hin.2.2) ?_
          refine JL.asg ?_
          refine JL.asg ?_
          refine JL.nil ?_
          refine JQ.thenN ?_
          refine JC.ret ?_
          refine JQ.end2 (H' := []) (.inl rfl) rfl (.tmp rfl) (.tmp rfl) ?_ ?_
          · exact Sub.k
          · rw [pcV_ok hok, pcE_ok hok]

theorem rcFollow_any (x : Dig) (i n : Int) (hib : -9223372036854775808 ≤ i ∧ i ≤ 9223372036854775807) (hnb : -9223372036854775808 ≤ n ∧ n ≤ 9223372036854775807) (oa : Option Addr) (cap : Nat) (ds : List Dig) (w : World) (hd : Dl w oa cap ds) :
    Calls Tryd.prog 13 #[.int .i64 i, .int .i64 n, .agg (arr8 x.1), .slice oa ds.length cap] w (Ret w (fun v _ => v = .tuple #[.agg (arr8 (fcV x i n ds).1.1), .agg (arr8 (fcV x i n ds).2.1), .int .i64 (fcE i n ds)])) := by
  refine enter (vs := [.int .i64 i, .int .i64 n, .agg (arr8 x.1), .slice oa ds.length cap]) Tryd.func13 rfl Tryd.ntmps13 rfl ?_
  refine JC.seq ?_
  refine JC.region ?_
  refine JL.new rfl rfl rfl (.none rfl) (En.boxA rfl) (fun b6 hb6 => ?_)
  refine JL.new rfl rfl rfl (.none rfl) (En.allocZ (cs := arr8 (List.replicate 32 0)) Tryd.zeroValue22 rfl) (fun b8 hb8 => ?_)
  refine JL.new rfl rfl rfl (.none rfl) (En.allocZ (cs := arr8 (List.replicate 32 0)) Tryd.zeroValue22 rfl) (fun b9 hb9 => ?_)
  refine JL.asg ?_
  refine JL.nil ?_
  refine JQ.thenN ?_
  refine JC.seq ?_
  refine JC.region ?_
  refine JL.mv ?_
  refine JL.mv ?_
  refine JL.callV rfl (.none rfl) rfl Tryd.call20 (fun w1 hw1 => rcProofLen_any i n hib hnb w1) ?_
  refine JL.mv ?_
  refine JL.val rfl rfl rfl (.none rfl) (Ev.ex0 rfl) ?_
  refine JL.val rfl rfl rfl (.none rfl) (Ev.ex1 rfl) ?_
  refine JL.asg ?_
  refine JL.asg ?_
  refine JL.nil ?_
  refine JQ.thenN ?_
  refine JC.seq ?_
  refine JC.seq ?_
  refine JC.region ?_
  refine JL.mv ?_
  refine JL.val rfl rfl rfl (.none rfl) (Ev.bin rfl rfl neq_int) ?_
  refine JL.nil ?_
  refine JQ.thenN ?_
  refine JC.cond rfl (fun hc1 => ?_) (fun hc1 => ?_)
  · -- t22 True
    have hbad : badC i n := Classical.byContradiction fun h => by rw [pcE_ok h] at hc1; simp at hc1
    refine JC.seq ?_
    refine JC.region ?_
    refine JL.val rfl rfl rfl (.none rfl) (Ev.bu0 Tryd.underlying22 Tryd.sizeOf5 Tryd.zeroValue22) ?_
    refine JL.val rfl rfl rfl (.none rfl) (Ev.bu0 Tryd.underlying22 Tryd.sizeOf5 Tryd.zeroValue22) ?_
    refine JL.mv ?_
    refine JL.sto rfl rfl (.none rfl) (Es.sA Tryd.sizeOf22) ?_
    refine JL.sto rfl rfl (.none rfl) (Es.sA Tryd.sizeOf22) ?_
    refine JL.asg ?_
    refine JL.nil ?_
    refine JQ.thenN ?_
    refine JC.ret ?_
    refine JQ.thenR ?_
    refine JQ.end3 (H' := []) (.inl rfl) rfl (.agg rfl memK Tryd.underlying22 rfl Tryd.sizeOf22 szK) (.agg rfl memK Tryd.underlying22 rfl Tryd.sizeOf22 szK) (.tmp rfl) ?_ ?_
    · exact Sub.k
    · first | (rw [fcV_bad hbad, fcE_bad hbad, pcE_bad hbad]; rfl) | (rw [fcV_bad hbad, fcE_bad hbad]; rfl) | (rw [fcV_ne hok hne, fcE_ne hok hne]; rfl) | rw [fcV_ok hok heq, fcE_ok hok heq]
  · -- t22 False
    have hok : ¬ badC i n := fun h => by rw [pcE_bad h] at hc1; simp at hc1
    have hbd := hok
    unfold badC at hbd
    obtain ⟨I, rfl⟩ : ∃ m : Nat, i = (m : Int) := ⟨i.toNat, by omega⟩
    obtain ⟨N, rfl⟩ : ∃ m : Nat, n = (m : Int) := ⟨n.toNat, by omega⟩
    have hin : 1 ≤ I ∧ I ≤ N ∧ N ≤ 1024 := by omega
    refine JC.skip ?_
    refine JQ.thenN ?_
    refine JC.seq ?_
    refine JC.seq ?_
    refine JC.region ?_
    refine JL.mv ?_
    refine JL.val rfl rfl rfl (.none rfl) (Ev.lenS rfl Tryd.underlying23) ?_
    refine JL.mv ?_
    refine JL.val rfl rfl rfl (.none rfl) (Ev.bin rfl rfl neq_int) ?_
    refine JL.nil ?_
    refine JQ.thenN ?_
    refine JC.cond rfl (fun hc2 => ?_) (fun hc2 => ?_)
    · -- t29 True
      have hne : ds.length ≠ stepsC I N true := fun h => by rw [pcV_ok hok, ← h] at hc2; simp at hc2
      refine JC.seq ?_
      refine JC.region ?_
      refine JL.val rfl rfl rfl (.none rfl) (Ev.bu0 Tryd.underlying22 Tryd.sizeOf5 Tryd.zeroValue22) ?_
      refine JL.val rfl rfl rfl (.none rfl) (Ev.bu0 Tryd.underlying22 Tryd.sizeOf5 Tryd.zeroValue22) ?_
      refine JL.sto rfl rfl (.none rfl) (Es.sA Tryd.sizeOf22) ?_
      refine JL.sto rfl rfl (.none rfl) (Es.sA Tryd.sizeOf22) ?_
      refine JL.asg ?_
      refine JL.nil ?_
      refine JQ.thenN ?_
      refine JC.ret ?_
      refine JQ.thenR ?_
      refine JQ.end3 (H' := []) (.inl rfl) rfl (.agg rfl memK Tryd.underlying22 rfl Tryd.sizeOf22 szK) (.agg rfl memK Tryd.underlying22 rfl Tryd.sizeOf22 szK) (.tmp rfl) ?_ ?_
      · exact Sub.k
      · first | (rw [fcV_bad hbad, fcE_bad hbad, pcE_bad hbad]; rfl) | (rw [fcV_bad hbad, fcE_bad hbad]; rfl) | (rw [fcV_ne hok hne, fcE_ne hok hne]; rfl) | rw [fcV_ok hok heq, fcE_ok hok heq]
    · -- t29 False
      have heq : ds.length = stepsC I N true := Classical.byContradiction fun h => by rw [pcV_ok hok] at hc2; have := of_decide_eq_false hc2; omega
      refine JC.skip ?_
      refine JQ.thenN ?_
      refine JC.seq ?_
      refine JC.region ?_
      refine JL.mv ?_
      refine JL.mv ?_
      refine JL.val rfl rfl rfl (.none rfl) (Ev.lB Tryd.underlying22 Tryd.sizeOf22) ?_
      refine JL.mv ?_
      refine JL.callV rfl (.none rfl) rfl Tryd.call40 (fun w1 hw1 => ledC_any x I N true oa cap ds w1 hin.1 hin.2.1 hin.2.2 (hd.old hw1) heq) ?_
      refine JL.mv ?_
      refine JL.val rfl rfl rfl (.none rfl) (Ev.ex0 rfl) ?_
      refine JL.val rfl rfl rfl (.none rfl) (Ev.ex1 rfl) ?_
      refine JL.new rfl rfl rfl (.none rfl) (En.allocZ (cs := arr8 (List.replicate 32 0)) Tryd.zeroValue22 rfl) (fun b13 hb13 => ?_)
      refine JL.new rfl rfl rfl (.none rfl) (En.allocZ (cs := arr8 (List.replicate 32 0)) Tryd.zeroValue22 rfl) (fun b14 hb14 => ?_)
      refine JL.sto rfl rfl (.none rfl) (Es.sA Tryd.sizeOf22) ?_
      refine JL.sto rfl rfl (.none rfl) (Es.sA Tryd.sizeOf22) ?_
      refine JL.nil ?_
      refine JQ.thenN ?_
      refine JC.seq ?_
      refine JC.regionA (by kernel_rfl) ?_
      refine JA.branch [0, 1] (by kernel_rfl) rfl ?_
      refine JAll.cons rfl ?_ ?_
      · -- 0
        refine JO.val rfl rfl rfl (.none rfl) (Ev.lB Tryd.underlying22 Tryd.sizeOf22) ?_
        refine JA.branch [1, 2] (by kernel_rfl) rfl ?_
        refine JAll.cons rfl ?_ ?_
        · -- 1
          refine JO.val rfl rfl rfl (.none rfl) (Ev.lB Tryd.underlying22 Tryd.sizeOf22) ?_
          refine JA.one 2 ?_
          refine JO.sto rfl rfl (.none rfl) (Es.sA Tryd.sizeOf22) ?_
          refine JA.one 3 ?_
          refine JO.sto rfl rfl (.none rfl) (Es.sA Tryd.sizeOf22) ?_
          refine JA.tk 4 rfl (.none rfl) (fun _ => (Ev.assign rfl)) ?_
          refine JA.done (by kernel_rfl) ?_
          refine JQ.thenN ?_
          refine JC.ret ?_
          refine JQ.end3 (H' := []) (.inl rfl) rfl (.agg rfl memK Tryd.underlying22 rfl Tryd.sizeOf22 szK) (.agg rfl memK Tryd.underlying22 rfl Tryd.sizeOf22 szK) (.tmp rfl) ?_ ?_
          · exact Sub.k
          · first | (rw [fcV_bad hbad, fcE_bad hbad, pcE_bad hbad]; rfl) | (rw [fcV_bad hbad, fcE_bad hbad]; rfl) | (rw [fcV_ne hok hne, fcE_ne hok hne]; rfl) | rw [fcV_ok hok heq, fcE_ok hok heq]
        refine JAll.cons rfl ?_ JAll.nil
        refine JO.sto rfl rfl (.none rfl) (Es.sA Tryd.sizeOf22) ?_
        refine JA.one 1 ?_
        refine JO.val rfl rfl rfl (.none rfl) (Ev.lB Tryd.underlying22 Tryd.sizeOf22) ?_
        refine JA.one 3 ?_
        refine JO.sto rfl rfl (.none rfl) (Es.sA Tryd.sizeOf22) ?_
        refine JA.tk 4 rfl (.none rfl) (fun _ => (Ev.assign rfl)) ?_
        refine JA.done (by kernel_rfl) ?_
        refine JQ.thenN ?_
        refine JC.ret ?_
        refine JQ.end3 (H' := []) (.inl rfl) rfl (.agg rfl memK Tryd.underlying22 rfl Tryd.sizeOf22 szK) (.agg rfl memK Tryd.underlying22 rfl Tryd.sizeOf22 szK) (.tmp rfl) ?_ ?_
        · exact Sub.k
        · first | (rw [fcV_bad hbad, fcE_bad hbad, pcE_bad hbad]; rfl) | (rw [fcV_bad hbad, fcE_bad hbad]; rfl) | (rw [fcV_ne hok hne, fcE_ne hok hne]; rfl) | rw [fcV_ok hok heq, fcE_ok hok heq]
      refine JAll.cons rfl ?_ JAll.nil
      refine JO.val rfl rfl rfl (.none rfl) (Ev.lB Tryd.underlying22 Tryd.sizeOf22) ?_
      refine JA.one 0 ?_
      refine JO.val rfl rfl rfl (.none rfl) (Ev.lB Tryd.underlying22 Tryd.sizeOf22) ?_
      refine JA.one 2 ?_
      refine JO.sto rfl rfl (.none rfl) (Es.sA Tryd.sizeOf22) ?_
      refine JA.one 3 ?_
      refine JO.sto rfl rfl (.none rfl) (Es.sA Tryd.sizeOf22) ?_
      refine JA.tk 4 rfl (.none rfl) (fun _ => (Ev.assign rfl)) ?_
      refine JA.done (by kernel_rfl) ?_
      refine JQ.thenN ?_
      refine JC.ret ?_
      refine JQ.end3 (H' := []) (.inl rfl) rfl (.agg rfl memK Tryd.underlying22 rfl Tryd.sizeOf22 szK) (.agg rfl memK Tryd.underlying22 rfl Tryd.sizeOf22 szK) (.tmp rfl) ?_ ?_
      · exact Sub.k
      · first | (rw [fcV_bad hbad, fcE_bad hbad, pcE_bad hbad]; rfl) | (rw [fcV_bad hbad, fcE_bad hbad]; rfl) | (rw [fcV_ne hok hne, fcE_ne hok hne]; rfl) | rw [fcV_ok hok heq, fcE_ok hok heq]

theorem rcVerify_any (x y : Dig) (i n : Int) (hib : -9223372036854775808 ≤ i ∧ i ≤ 9223372036854775807) (hnb : -9223372036854775808 ≤ n ∧ n ≤ 9223372036854775807) (oa : Option Addr) (cap : Nat) (ds : List Dig) (w : World) (hd : Dl w oa cap ds) :
    Calls Tryd.prog 15 #[.int .i64 i, .int .i64 n, .agg (arr8 x.1), .agg (arr8 y.1), .slice oa ds.length cap] w (Ret w (fun v _ => v = .tuple #[.bool (vcV x y i n ds), .int .i64 (vcE i n ds)])) := by
  refine enter (vs := [.int .i64 i, .int .i64 n, .agg (arr8 x.1), .agg (arr8 y.1), .slice oa ds.length cap]) Tryd.func15 rfl Tryd.ntmps15 rfl ?_
  refine JC.seq ?_
  refine JC.region ?_
  refine JL.new rfl rfl rfl (.none rfl) (En.boxA rfl) (fun b7 hb7 => ?_)
  refine JL.new rfl rfl rfl (.none rfl) (En.boxA rfl) (fun b8 hb8 => ?_)
  refine JL.asg ?_
  refine JL.asg ?_
  refine JL.nil ?_
  refine JQ.thenN ?_
  refine JC.seq ?_
  refine JC.region ?_
  refine JL.mv ?_
  refine JL.mv ?_
  refine JL.val rfl rfl rfl (.none rfl) (Ev.lB Tryd.underlying22 Tryd.sizeOf22) ?_
  refine JL.mv ?_
  refine JL.callV rfl (.none rfl) rfl Tryd.call13 (fun w1 hw1 => rcFollow_any x i n hib hnb oa cap ds w1 (hd.old hw1)) ?_
  refine JL.mv ?_
  refine JL.val rfl rfl rfl (.none rfl) (Ev.ex0 rfl) ?_
  refine JL.val rfl rfl rfl (.none rfl) (Ev.ex1 rfl) ?_
  refine JL.val rfl rfl rfl (.none rfl) (Ev.ex2 rfl) ?_
  refine JL.new rfl rfl rfl (.none rfl) (En.allocZ (cs := arr8 (List.replicate 32 0)) Tryd.zeroValue22 rfl) (fun b12 hb12 => ?_)
  refine JL.new rfl rfl rfl (.none rfl) (En.allocZ (cs := arr8 (List.replicate 32 0)) Tryd.zeroValue22 rfl) (fun b13 hb13 => ?_)
  refine JL.sto rfl rfl (.none rfl) (Es.sA Tryd.sizeOf22) ?_
  refine JL.sto rfl rfl (.none rfl) (Es.sA Tryd.sizeOf22) ?_
  refine JL.asg ?_
  refine JL.nil ?_
  refine JQ.thenN ?_
  refine JC.seq ?_
  refine JC.seq ?_
  refine JC.region ?_
  refine JL.mv ?_
  refine JL.val rfl rfl rfl (.none rfl) (Ev.bin rfl rfl eql_int) ?_
  refine JL.nil ?_
  refine JQ.thenN ?_
  refine JC.cond rfl (fun hc1 => ?_) (fun hc1 => ?_)
  · -- t25 True
    replace hc1 := of_decide_eq_true hc1
    refine JC.seq ?_
    refine JC.region ?_
    refine JL.mv ?_
    refine JL.asg ?_
    refine JL.asg ?_
    refine JL.nil ?_
    refine JQ.thenN ?_
    refine JC.ret ?_
    refine JQ.thenR ?_
    refine JQ.end2 (H' := []) (.inl rfl) rfl (.tmp rfl) (.tmp rfl) ?_ ?_
    · exact Sub.k
    · first | (rw [vcV_bad hc1, vcE_bad hc1, hc1] <;> rfl) | (rw [vcV_e hc1 hgE, vcE_ok hc1] <;> rfl) | (rw [vcV_o hc1 hgO, vcE_ok hc1] <;> rfl) | (rw [vcV_y hc1 hgE hgO, vcE_ok hc1] <;> rfl)
  · -- t25 False
    replace hc1 := of_decide_eq_false hc1
    refine JC.skip ?_
    refine JQ.thenN ?_
    refine JC.seq ?_
    refine JC.region ?_
    refine JL.mv ?_
    refine JL.val rfl rfl rfl (.none rfl) (Ev.bin rfl rfl eql_int) ?_
    refine JL.mv ?_
    refine JL.split (d := 29) rfl (fun hgE => ?_) (fun hgE => ?_)
    · -- guard 29 true
      have hgE := of_decide_eq_true hgE
      refine JL.val rfl rfl rfl (.yes rfl rfl rfl) (Ev.lB Tryd.underlying22 Tryd.sizeOf22) ?_
      refine JL.val rfl rfl rfl (.yes rfl rfl rfl) (Ev.lB Tryd.underlying22 Tryd.sizeOf22) ?_
      refine JL.val rfl rfl rfl (.yes rfl rfl rfl) (Ev.bin rfl rfl (eql_arr8 (n := 32) Tryd.underlying22 Tryd.underlying5 (by kernel_rfl) (by kernel_rfl) (by first | rfl | exact dig_len _ | assumption | exact sha_length _ | exact shaO_length _) (by first | rfl | exact dig_len _ | assumption | exact sha_length _ | exact shaO_length _))) ?_
      refine JL.val rfl rfl rfl (.none rfl) (Ev.pickT rfl rfl) ?_
      refine JL.mv ?_
      refine JL.split (d := 34) rfl (fun hgO => ?_) (fun hgO => ?_)
      · -- guard 34 true
        have hgO := of_decide_eq_true hgO
        refine JL.val rfl rfl rfl (.yes rfl rfl rfl) (Ev.lB Tryd.underlying22 Tryd.sizeOf22) ?_
        refine JL.val rfl rfl rfl (.yes rfl rfl rfl) (Ev.lB Tryd.underlying22 Tryd.sizeOf22) ?_
        refine JL.val rfl rfl rfl (.yes rfl rfl rfl) (Ev.bin rfl rfl (eql_arr8 (n := 32) Tryd.underlying22 Tryd.underlying5 (by kernel_rfl) (by kernel_rfl) (by first | rfl | exact dig_len _ | assumption | exact sha_length _ | exact shaO_length _) (by first | rfl | exact dig_len _ | assumption | exact sha_length _ | exact shaO_length _))) ?_
        refine JL.val rfl rfl rfl (.none rfl) (Ev.pickT rfl rfl) ?_
        refine JL.asg ?_
        refine JL.asg ?_
        refine JL.nil ?_
        refine JQ.thenN ?_
        refine JC.ret ?_
        refine JQ.end2 (H' := []) (.inl rfl) rfl (.tmp rfl) (.tmp rfl) ?_ ?_
        · exact Sub.k
        · first | (rw [vcV_bad hc1, vcE_bad hc1, hc1] <;> rfl) | (rw [vcV_e hc1 hgE, vcE_ok hc1] <;> rfl) | (rw [vcV_o hc1 hgO, vcE_ok hc1] <;> rfl) | (rw [vcV_y hc1 hgE hgO, vcE_ok hc1] <;> rfl)
      · -- guard 34 false
        have hgO := of_decide_eq_false hgO
        refine JL.skip rfl rfl (.noT rfl rfl rfl) ?_
        refine JL.skip rfl rfl (.noT rfl rfl rfl) ?_
        refine JL.skip rfl rfl (.noT rfl rfl rfl) ?_
        refine JL.val rfl rfl rfl (.none rfl) (Ev.pickF rfl rfl) ?_
        refine JL.asg ?_
        refine JL.asg ?_
        refine JL.nil ?_
        refine JQ.thenN ?_
        refine JC.ret ?_
        refine JQ.end2 (H' := []) (.inl rfl) rfl (.tmp rfl) (.tmp rfl) ?_ ?_
        · exact Sub.k
        · first | (rw [vcV_bad hc1, vcE_bad hc1, hc1] <;> rfl) | (rw [vcV_e hc1 hgE, vcE_ok hc1] <;> rfl) | (rw [vcV_o hc1 hgO, vcE_ok hc1] <;> rfl) | (rw [vcV_y hc1 hgE hgO, vcE_ok hc1] <;> rfl)
    · -- guard 29 false
      have hgE := of_decide_eq_false hgE
      refine JL.skip rfl rfl (.noT rfl rfl rfl) ?_
      refine JL.skip rfl rfl (.noT rfl rfl rfl) ?_
      refine JL.skip rfl rfl (.noT rfl rfl rfl) ?_
      refine JL.val rfl rfl rfl (.none rfl) (Ev.pickF rfl rfl) ?_
      refine JL.mv ?_
      refine JL.skip rfl rfl (.noT rfl rfl rfl) ?_
      refine JL.skip rfl rfl (.noT rfl rfl rfl) ?_
      refine JL.skip rfl rfl (.noT rfl rfl rfl) ?_
      refine JL.val rfl rfl rfl (.none rfl) (Ev.pickF rfl rfl) ?_
      refine JL.asg ?_
      refine JL.asg ?_
      refine JL.nil ?_
      refine JQ.thenN ?_
      refine JC.ret ?_
      refine JQ.end2 (H' := []) (.inl rfl) rfl (.tmp rfl) (.tmp rfl) ?_ ?_
      · exact Sub.k
      · first | (rw [vcV_bad hc1, vcE_bad hc1, hc1] <;> rfl) | (rw [vcV_e hc1 hgE, vcE_ok hc1] <;> rfl) | (rw [vcV_o hc1 hgO, vcE_ok hc1] <;> rfl) | (rw [vcV_y hc1 hgE hgO, vcE_ok hc1] <;> rfl)

theorem rOver_any_step (N : Nat) (ih : ∀ (oa : Option Addr) (cap : Nat) (ds : List Dig) (w : World) (_ : Dl w oa cap ds) (_ : ds.length ≤ 1100000), ds.length < N → Calls Tryd.prog 45 #[.slice oa ds.length cap] w (Ret w (fun v H => ∃ r : Option Row, v = Row.v (overR ds).length r ∧ H = Row.b 22 r ∧ Row.ok 32 (overR ds).length (fl (overR ds)) r))) (oa : Option Addr) (cap : Nat) (ds : List Dig) (w : World) (hd : Dl w oa cap ds) (hmx : ds.length ≤ 1100000) (hN : ds.length = N) :
    Calls Tryd.prog 45 #[.slice oa ds.length cap] w (Ret w (fun v H => ∃ r : Option Row, v = Row.v (overR ds).length r ∧ H = Row.b 22 r ∧ Row.ok 32 (overR ds).length (fl (overR ds)) r)) := by
  refine enter (vs := [.slice oa ds.length cap]) Tryd.func45 rfl Tryd.ntmps45 rfl ?_
  refine JC.seq ?_
  refine JC.region ?_
  refine JL.asg ?_
  refine JL.nil ?_
  refine JQ.thenN ?_
  refine JC.seq ?_
  refine JC.seq ?_
  refine JC.region ?_
  refine JL.mv ?_
  refine JL.val rfl rfl rfl (.none rfl) (Ev.lenS rfl Tryd.underlying23) ?_
  refine JL.val rfl rfl rfl (.none rfl) (Ev.bin rfl rfl eql_int) ?_
  refine JL.nil ?_
  refine JQ.thenN ?_
  refine JC.cond rfl (fun hc1 => ?_) (fun hc1 => ?_)
  · -- t6 True
    replace hc1 := of_decide_eq_true hc1
    have hnil : ds = [] := List.eq_nil_of_length_eq_zero (by omega)
    refine JC.seq ?_
    refine JC.region ?_
    refine JL.asg ?_
    refine JL.nil ?_
    refine JQ.thenN ?_
    refine JC.ret ?_
    refine JQ.thenR ?_
    refine JQ.end1 (H' := []) (.inl rfl) rfl (.tmp rfl) ?_ ?_
    · exact Sub.of_cnt (fun a => by (try dsimp only); simp only [cntA]; omega)
    · subst hnil; exact ⟨none, by rw [overR_nil]; rfl, rfl, by rw [overR_nil]; exact Row.ok0⟩
  · -- t6 False
    replace hc1 := of_decide_eq_false hc1
    have h1 : 1 ≤ ds.length := by omega
    have h2 : 2 ≤ ds.length + 1 := by omega
    have hbl := bel_lt h2
    have hbp := bel_pos (ds.length + 1)
    obtain ⟨ob, eob, hob⟩ := Dl.drop hd (show bel (ds.length + 1) ≤ ds.length by omega)
    have htl : (ds.take (bel (ds.length + 1))).length = bel (ds.length + 1) := by rw [List.length_take]; omega
    have hdl : (ds.drop (bel (ds.length + 1))).length = ds.length - bel (ds.length + 1) := List.length_drop
    refine JC.skip ?_
    refine JQ.thenN ?_
    refine JC.seq ?_
    refine JC.region ?_
    refine JL.mv ?_
    refine JL.val rfl rfl rfl (.none rfl) (Ev.lenS rfl Tryd.underlying23) ?_
    refine JL.val rfl rfl rfl (.none rfl) (Ev.cast (v' := .int .i64 ((ds.length + 1 : Nat) : Int)) (congrArg (Value.int .i64) (by omega)) (Ev.bin rfl rfl (add_i64 (by omega)))) ?_
    refine JL.callV rfl (.none rfl) rfl Tryd.call59 (fun w1 hw1 => below_any (ds.length + 1) (by omega) (by omega) w1) ?_
    refine JL.asg ?_
    refine JL.nil ?_
    refine JQ.thenN ?_
    refine JC.seq ?_
    refine JC.regionA (by kernel_rfl) ?_
    refine JA.tk 0 rfl (.none rfl) (fun _ => (Ev.move rfl)) ?_
    refine JA.tk 1 rfl (.none rfl) (fun _ => (Ev.move rfl)) ?_
    refine JA.tk 2 rfl (.none rfl) (fun _ => (Ev.cast (v' := .slice oa (ds.take (bel (ds.length + 1))).length cap) (by rw [sub3_0, htl]) (Ev.sliceHi rfl rfl Tryd.underlying23 Tryd.sizeOf22 (h := bel (ds.length + 1)) rfl (by have := hd.le; omega)))) ?_
    refine JA.tk 5 rfl (.none rfl) (fun _ => (Ev.move rfl)) ?_
    refine JA.tk 6 rfl (.none rfl) (fun _ => (Ev.move rfl)) ?_
    refine JA.tk 7 rfl (.none rfl) (fun _ => (Ev.cast (v' := .slice ob (ds.drop (bel (ds.length + 1))).length (cap - bel (ds.length + 1))) (eob) (Ev.sliceLo rfl rfl Tryd.underlying23 Tryd.sizeOf22 (l := bel (ds.length + 1)) rfl (by omega)))) ?_
    refine JA.one 3 ?_
    refine JO.callV rfl (.none rfl) rfl Tryd.call60 (fun w1 hw1 => rOf_any oa cap (ds.take (bel (ds.length + 1))) w1 (Dl.take (hd.old hw1) (by omega)) (by omega)) ?_
    refine JA.branch [4, 8] (by kernel_rfl) rfl ?_
    refine JAll.cons rfl ?_ ?_
    · -- 4
      refine JO.new rfl rfl rfl (.none rfl) (En.bs1D (e := 22) rfl Tryd.underlying23 Tryd.sizeOf22 Tryd.zeroValue22) (fun b15 hb15 => ?_)
      refine JA.one 8 ?_
      refine JO.callN rfl (.none rfl) rfl Tryd.call45 (fun w1 hw1 => ih ob (cap - bel (ds.length + 1)) (ds.drop (bel (ds.length + 1))) w1 (hob w1 (hd.old hw1)) (by omega) (by omega)) ?_
      rintro _ _ ⟨r1, rfl, rfl, hr1⟩
      refine JA.one 9 ?_
      refine JO.gen rfl rfl rfl (.none rfl) (Eg.appendR (r := some ⟨b15, 1, (fl [(rootR (ds.take (bel (ds.length + 1))))]).toArray⟩) (n := 1) (xs := fl [(rootR (ds.take (bel (ds.length + 1))))]) (z := (.agg (arr8 (List.replicate 32 0)))) (s := 32) (bytes := 32) rfl rfl rfl rfl Cut.k Tryd.underlying23 (by kernel_rfl) rfl (by decide) (by decide) (row1D b15 (rootR (ds.take (bel (ds.length + 1))))) hr1 (fun p hp => by simp [hp]) (by intro u hu; first | exact fl_one _ u hu | exact u8s_one _ u hu | (simp at hu; subst hu; rfl)) (by have := over_le (ds.drop (bel (ds.length + 1))); omega)) ?_
      rintro _ _ ⟨rn, rfl, rfl, hrn, hnn⟩
      refine JA.tk 10 rfl (.none rfl) (fun _ => (Ev.assign rfl)) ?_
      refine JA.done (by kernel_rfl) ?_
      refine JQ.thenN ?_
      refine JC.ret ?_
      refine JQ.end1 (H' := (Row.b 22 rn)) (.inl rfl) rfl (.tmp rfl) ?_ ?_
      · exact Sub.of_cnt (fun a => by (try dsimp only); simp only [cntA]; omega)
      · rw [← fl_append] at hrn; exact ⟨rn, by rw [overR_cons h1, List.length_cons, Nat.add_comm], rfl, by rw [overR_cons h1, List.length_cons, Nat.add_comm]; exact hrn⟩
    refine JAll.cons rfl ?_ JAll.nil
    refine JO.callN rfl (.none rfl) rfl Tryd.call45 (fun w1 hw1 => ih ob (cap - bel (ds.length + 1)) (ds.drop (bel (ds.length + 1))) w1 (hob w1 (hd.old hw1)) (by omega) (by omega)) ?_
    rintro _ _ ⟨r1, rfl, rfl, hr1⟩
    refine JA.one 4 ?_
    refine JO.new rfl rfl rfl (.none rfl) (En.bs1D (e := 22) rfl Tryd.underlying23 Tryd.sizeOf22 Tryd.zeroValue22) (fun b15 hb15 => ?_)
    refine JA.one 9 ?_
    refine JO.gen rfl rfl rfl (.none rfl) (Eg.appendR (r := some ⟨b15, 1, (fl [(rootR (ds.take (bel (ds.length + 1))))]).toArray⟩) (n := 1) (xs := fl [(rootR (ds.take (bel (ds.length + 1))))]) (z := (.agg (arr8 (List.replicate 32 0)))) (s := 32) (bytes := 32) rfl rfl rfl rfl Cut.k Tryd.underlying23 (by kernel_rfl) rfl (by decide) (by decide) (row1D b15 (rootR (ds.take (bel (ds.length + 1))))) hr1 (fun p hp => by simp [hp]) (by intro u hu; first | exact fl_one _ u hu | exact u8s_one _ u hu | (simp at hu; subst hu; rfl)) (by have := over_le (ds.drop (bel (ds.length + 1))); omega)) ?_
    rintro _ _ ⟨rn, rfl, rfl, hrn, hnn⟩
    refine JA.tk 10 rfl (.none rfl) (fun _ => (Ev.assign rfl)) ?_
    refine JA.done (by kernel_rfl) ?_
    refine JQ.thenN ?_
    refine JC.ret ?_
    refine JQ.end1 (H' := (Row.b 22 rn)) (.inl rfl) rfl (.tmp rfl) ?_ ?_
    · exact Sub.of_cnt (fun a => by (try dsimp only); simp only [cntA]; omega)
    · rw [← fl_append] at hrn; exact ⟨rn, by rw [overR_cons h1, List.length_cons, Nat.add_comm], rfl, by rw [overR_cons h1, List.length_cons, Nat.add_comm]; exact hrn⟩
theorem rOver_any (oa : Option Addr) (cap : Nat) (ds : List Dig) (w : World) (hd : Dl w oa cap ds) (hmx : ds.length ≤ 1100000) :
    Calls Tryd.prog 45 #[.slice oa ds.length cap] w (Ret w (fun v H => ∃ r : Option Row, v = Row.v (overR ds).length r ∧ H = Row.b 22 r ∧ Row.ok 32 (overR ds).length (fl (overR ds)) r)) := by
  have key : ∀ (N : Nat) (oa : Option Addr) (cap : Nat) (ds : List Dig) (w : World) (hd : Dl w oa cap ds) (hmx : ds.length ≤ 1100000), ds.length = N → Calls Tryd.prog 45 #[.slice oa ds.length cap] w (Ret w (fun v H => ∃ r : Option Row, v = Row.v (overR ds).length r ∧ H = Row.b 22 r ∧ Row.ok 32 (overR ds).length (fl (overR ds)) r)) := by
    intro N
    induction N using Nat.strongRecOn with
    | _ N IH =>
      intro oa cap ds w hd hmx hN
      exact rOver_any_step N (fun oa cap ds w hd hmx hlt => IH _ hlt oa cap ds w hd hmx rfl) oa cap ds w hd hmx hN
  exact key _ oa cap ds w hd hmx rfl

theorem rPeaks_any (oa : Option Addr) (cap : Nat) (ds : List Dig) (w : World) (hd : Dl w oa cap ds) (hmx : ds.length ≤ 1100000) :
    Calls Tryd.prog 23 #[.slice oa ds.length cap] w (Ret w (fun v H => ∃ r : Option Row, v = .tuple #[Row.v (pkV ds).length r, .int .i64 (pkE ds)] ∧ H = Row.b 22 r ∧ Row.ok 32 (pkV ds).length (fl (pkV ds)) r)) := by
  refine enter (vs := [.slice oa ds.length cap]) Tryd.func23 rfl Tryd.ntmps23 rfl ?_
  refine JC.seq ?_
  refine JC.region ?_
  refine JL.asg ?_
  refine JL.asg ?_
  refine JL.nil ?_
  refine JQ.thenN ?_
  refine JC.seq ?_
  refine JC.seq ?_
  refine JC.region ?_
  refine JL.mv ?_
  refine JL.val rfl rfl rfl (.none rfl) (Ev.lenS rfl Tryd.underlying23) ?_
  refine JL.val rfl rfl rfl (.none rfl) (Ev.bin rfl rfl gtr_int) ?_
  refine JL.nil ?_
  refine JQ.thenN ?_
  refine JC.cond rfl (fun hc1 => ?_) (fun hc1 => ?_)
  · -- t6 True
    replace hc1 := of_decide_eq_true hc1
    have hgr : 1024 < ds.length := by omega
    refine JC.seq ?_
    refine JC.region ?_
    refine JL.asg ?_
    refine JL.asg ?_
    refine JL.nil ?_
    refine JQ.thenN ?_
    refine JC.ret ?_
    refine JQ.thenR ?_
    refine JQ.end2 (H' := []) (.inl rfl) rfl (.tmp rfl) (.tmp rfl) ?_ ?_
    · exact Sub.of_cnt (fun a => by (try dsimp only); simp only [cntA]; omega)
    · exact ⟨none, by rw [pkV_gr hgr, pkE_gr hgr]; rfl, rfl, by rw [pkV_gr hgr]; exact Row.ok0⟩
  · -- t6 False
    replace hc1 := of_decide_eq_false hc1
    have hsm : ¬ 1024 < ds.length := by omega
    refine JC.skip ?_
    refine JQ.thenN ?_
    refine JC.seq ?_
    refine JC.region ?_
    refine JL.mv ?_
    refine JL.callN rfl (.none rfl) rfl Tryd.call45 (fun w1 hw1 => rOver_any oa cap ds w1 (hd.old hw1) hmx) ?_
    rintro _ _ ⟨r1, rfl, rfl, hr1⟩
    refine JL.asg ?_
    refine JL.asg ?_
    refine JL.nil ?_
    refine JQ.thenN ?_
    refine JC.ret ?_
    refine JQ.end2 (H' := (Row.b 22 r1)) (.inl rfl) rfl (.tmp rfl) (.tmp rfl) ?_ ?_
    · exact Sub.of_cnt (fun a => by (try dsimp only); simp only [cntA]; omega)
    · exact ⟨r1, by rw [pkV_ok hsm, pkE_ok hsm], rfl, by rw [pkV_ok hsm]; exact hr1⟩

theorem ones_any_step (N : Nat) (ih : ∀ (n : Nat) (w : World) (_ : n ≤ 2000), n < N → Calls Tryd.prog 49 #[.int .i64 (n : Int)] w (Ret w (fun v _ => v = .int .i64 ((onesR n : Nat) : Int)))) (n : Nat) (w : World) (hmx : n ≤ 2000) (hN : n = N) :
    Calls Tryd.prog 49 #[.int .i64 (n : Int)] w (Ret w (fun v _ => v = .int .i64 ((onesR n : Nat) : Int))) := by
  refine enter (vs := [.int .i64 (n : Int)]) Tryd.func49 rfl Tryd.ntmps49 rfl ?_
  refine JC.seq ?_
  refine JC.region ?_
  refine JL.asg ?_
  refine JL.nil ?_
  refine JQ.thenN ?_
  refine JC.seq ?_
  refine JC.seq ?_
  refine JC.region ?_
  refine JL.mv ?_
  refine JL.val rfl rfl rfl (.none rfl) (Ev.bin rfl rfl eql_int) ?_
  refine JL.nil ?_
  refine JQ.thenN ?_
  refine JC.cond rfl (fun hc1 => ?_) (fun hc1 => ?_)
  · -- t4 True
    replace hc1 := of_decide_eq_true hc1
    have h0 : n = 0 := by omega
    refine JC.seq ?_
    refine JC.region ?_
    refine JL.asg ?_
    refine JL.nil ?_
    refine JQ.thenN ?_
    refine JC.ret ?_
    refine JQ.thenR ?_
    refine JQ.end1 (H' := []) (.inl rfl) rfl (.tmp rfl) ?_ ?_
    · exact Sub.k
    · rw [h0, onesR_zero]; rfl
  · -- t4 False
    replace hc1 := of_decide_eq_false hc1
    have h0 : n ≠ 0 := by omega
    refine JC.skip ?_
    refine JQ.thenN ?_
    refine JC.seq ?_
    refine JC.region ?_
    refine JL.mv ?_
    refine JL.val rfl rfl rfl (.none rfl) (Ev.bin rfl rfl (rem_i64 (by omega))) ?_
    refine JL.mv ?_
    refine JL.val rfl rfl rfl (.none rfl) (Ev.cast (v' := .int .i64 ((n / 2 : Nat) : Int)) (congrArg (Value.int .i64) (by omega)) (Ev.bin rfl rfl (quo_i64 (by omega)))) ?_
    refine JL.callV rfl (.none rfl) rfl Tryd.call49 (fun w1 hw1 => ih (n / 2) w1 (by omega) (by omega)) ?_
    have hol := onesR_le (n / 2)
    refine JL.val rfl rfl rfl (.none rfl) (Ev.bin rfl rfl (add_i64 (by omega))) ?_
    refine JL.asg ?_
    refine JL.nil ?_
    refine JQ.thenN ?_
    refine JC.ret ?_
    refine JQ.end1 (H' := []) (.inl rfl) rfl (.tmp rfl) ?_ ?_
    · exact Sub.k
    · exact congrArg (Value.int .i64) (by rw [onesR_pos h0]; omega)
theorem ones_any (n : Nat) (w : World) (hmx : n ≤ 2000) :
    Calls Tryd.prog 49 #[.int .i64 (n : Int)] w (Ret w (fun v _ => v = .int .i64 ((onesR n : Nat) : Int))) := by
  have key : ∀ (N : Nat) (n : Nat) (w : World) (hmx : n ≤ 2000), n = N → Calls Tryd.prog 49 #[.int .i64 (n : Int)] w (Ret w (fun v _ => v = .int .i64 ((onesR n : Nat) : Int))) := by
    intro N
    induction N using Nat.strongRecOn with
    | _ N IH =>
      intro n w hmx hN
      exact ones_any_step N (fun n w hmx hlt => IH _ hlt n w hmx rfl) n w hmx hN
  exact key _ n w hmx rfl

theorem with_any_step (N : Nat) (ih : ∀ (oa : Option Addr) (cap : Nat) (ds : List Dig) (n : Nat) (x : Dig) (w : World) (_ : Dl w oa cap ds) (_ : n < 1024) (_ : ds.length = onesR n), n < N → Calls Tryd.prog 50 #[.slice oa ds.length cap, .int .i64 (n : Int), .agg (arr8 x.1)] w (Ret w (fun v H => ∃ r : Option Row, v = Row.v (withR ds n x).length r ∧ H = Row.b 22 r ∧ Row.ok 32 (withR ds n x).length (fl (withR ds n x)) r))) (oa : Option Addr) (cap : Nat) (ds : List Dig) (n : Nat) (x : Dig) (w : World) (hd : Dl w oa cap ds) (hmx : n < 1024) (hon : ds.length = onesR n) (hN : n = N) :
    Calls Tryd.prog 50 #[.slice oa ds.length cap, .int .i64 (n : Int), .agg (arr8 x.1)] w (Ret w (fun v H => ∃ r : Option Row, v = Row.v (withR ds n x).length r ∧ H = Row.b 22 r ∧ Row.ok 32 (withR ds n x).length (fl (withR ds n x)) r)) := by
  refine enter (vs := [.slice oa ds.length cap, .int .i64 (n : Int), .agg (arr8 x.1)]) Tryd.func50 rfl Tryd.ntmps50 rfl ?_
  refine JC.seq ?_
  refine JC.region ?_
  refine JL.new rfl rfl rfl (.none rfl) (En.boxA rfl) (fun b5 hb5 => ?_)
  refine JL.asg ?_
  refine JL.nil ?_
  refine JQ.thenN ?_
  refine JC.seq ?_
  refine JC.seq ?_
  refine JC.region ?_
  refine JL.mv ?_
  refine JL.val rfl rfl rfl (.none rfl) (Ev.bin rfl rfl (rem_i64 (by omega))) ?_
  refine JL.val rfl rfl rfl (.none rfl) (Ev.bin rfl rfl eql_int) ?_
  refine JL.nil ?_
  refine JQ.thenN ?_
  refine JC.cond rfl (fun hc1 => ?_) (fun hc1 => ?_)
  · -- t9 True
    replace hc1 := of_decide_eq_true hc1
    have he : n % 2 = 0 := by omega
    have hol := onesR_le n
    refine JC.seq ?_
    refine JC.regionA (by kernel_rfl) ?_
    refine JA.tk 0 rfl (.none rfl) (fun _ => (Ev.move rfl)) ?_
    refine JA.branch [1, 2] (by kernel_rfl) rfl ?_
    refine JAll.cons rfl ?_ ?_
    · -- 1
      refine JO.callN rfl (.none rfl) rfl Tryd.call16 (fun w1 hw1 => dTwin_any oa cap ds w1 (hd.old hw1) (by have := onesR_le n; omega)) ?_
      rintro _ _ ⟨r1, rfl, rfl, hr1⟩
      refine JA.one 2 ?_
      refine JO.val rfl rfl rfl (.none rfl) (Ev.lB Tryd.underlying22 Tryd.sizeOf22) ?_
      refine JA.one 3 ?_
      refine JO.new rfl rfl rfl (.none rfl) (En.bs1D (e := 22) rfl Tryd.underlying23 Tryd.sizeOf22 Tryd.zeroValue22) (fun b13 hb13 => ?_)
      refine JA.one 4 ?_
      refine JO.gen rfl rfl rfl (.none rfl) (Eg.append1 (z := (.agg (arr8 (List.replicate 32 0)))) (s := 32) (bytes := 32) rfl rfl rfl Cut.k Tryd.underlying23 (by kernel_rfl) rfl (by decide) (by decide) hr1 (Rds.all memK) (fl_length _) (by decide) (by intro u hu; first | exact fl_one _ u hu | exact u8s_one _ u hu | (simp at hu; subst hu; rfl)) (by omega)) ?_
      rintro _ _ ⟨rn0, rfl, rfl, hrn⟩
      obtain ⟨rn, hrne⟩ : ∃ rn : Option Row, rn = some rn0 := ⟨_, rfl⟩
      rw [← hrne] at hrn
      rw [← hrne]
      refine JA.tk 5 rfl (.none rfl) (fun _ => (Ev.assign rfl)) ?_
      refine JA.done (by kernel_rfl) ?_
      refine JQ.thenN ?_
      refine JC.ret ?_
      refine JQ.thenR ?_
      refine JQ.end1 (H' := (Row.b 22 rn)) (.inl rfl) rfl (.tmp rfl) ?_ ?_
      · exact Sub.of_cnt (fun a => by (try dsimp only); simp only [cntA]; omega)
      · first | exact ⟨rn, by rw [withR_even he, List.length_append]; rfl, rfl, by rw [withR_even he, List.length_append, fl_append]; exact hrn⟩ | exact ⟨rn, by rw [withR_odd he], rfl, by rw [withR_odd he]; exact hrn⟩
    refine JAll.cons rfl ?_ JAll.nil
    refine JO.val rfl rfl rfl (.none rfl) (Ev.lB Tryd.underlying22 Tryd.sizeOf22) ?_
    refine JA.branch [1, 3] (by kernel_rfl) rfl ?_
    refine JAll.cons rfl ?_ ?_
    · -- 1
      refine JO.callN rfl (.none rfl) rfl Tryd.call16 (fun w1 hw1 => dTwin_any oa cap ds w1 (hd.old hw1) (by have := onesR_le n; omega)) ?_
      rintro _ _ ⟨r1, rfl, rfl, hr1⟩
      refine JA.one 3 ?_
      refine JO.new rfl rfl rfl (.none rfl) (En.bs1D (e := 22) rfl Tryd.underlying23 Tryd.sizeOf22 Tryd.zeroValue22) (fun b13 hb13 => ?_)
      refine JA.one 4 ?_
      refine JO.gen rfl rfl rfl (.none rfl) (Eg.append1 (z := (.agg (arr8 (List.replicate 32 0)))) (s := 32) (bytes := 32) rfl rfl rfl Cut.k Tryd.underlying23 (by kernel_rfl) rfl (by decide) (by decide) hr1 (Rds.all memK) (fl_length _) (by decide) (by intro u hu; first | exact fl_one _ u hu | exact u8s_one _ u hu | (simp at hu; subst hu; rfl)) (by omega)) ?_
      rintro _ _ ⟨rn0, rfl, rfl, hrn⟩
      obtain ⟨rn, hrne⟩ : ∃ rn : Option Row, rn = some rn0 := ⟨_, rfl⟩
      rw [← hrne] at hrn
      rw [← hrne]
      refine JA.tk 5 rfl (.none rfl) (fun _ => (Ev.assign rfl)) ?_
      refine JA.done (by kernel_rfl) ?_
      refine JQ.thenN ?_
      refine JC.ret ?_
      refine JQ.thenR ?_
      refine JQ.end1 (H' := (Row.b 22 rn)) (.inl rfl) rfl (.tmp rfl) ?_ ?_
      · exact Sub.of_cnt (fun a => by (try dsimp only); simp only [cntA]; omega)
      · first | exact ⟨rn, by rw [withR_even he, List.length_append]; rfl, rfl, by rw [withR_even he, List.length_append, fl_append]; exact hrn⟩ | exact ⟨rn, by rw [withR_odd he], rfl, by rw [withR_odd he]; exact hrn⟩
    refine JAll.cons rfl ?_ JAll.nil
    refine JO.new rfl rfl rfl (.none rfl) (En.bs1D (e := 22) rfl Tryd.underlying23 Tryd.sizeOf22 Tryd.zeroValue22) (fun b13 hb13 => ?_)
    refine JA.one 1 ?_
    refine JO.callN rfl (.none rfl) rfl Tryd.call16 (fun w1 hw1 => dTwin_any oa cap ds w1 (hd.old hw1) (by have := onesR_le n; omega)) ?_
    rintro _ _ ⟨r1, rfl, rfl, hr1⟩
    refine JA.one 4 ?_
    refine JO.gen rfl rfl rfl (.none rfl) (Eg.append1 (z := (.agg (arr8 (List.replicate 32 0)))) (s := 32) (bytes := 32) rfl rfl rfl Cut.k Tryd.underlying23 (by kernel_rfl) rfl (by decide) (by decide) hr1 (Rds.all memK) (fl_length _) (by decide) (by intro u hu; first | exact fl_one _ u hu | exact u8s_one _ u hu | (simp at hu; subst hu; rfl)) (by omega)) ?_
    rintro _ _ ⟨rn0, rfl, rfl, hrn⟩
    obtain ⟨rn, hrne⟩ : ∃ rn : Option Row, rn = some rn0 := ⟨_, rfl⟩
    rw [← hrne] at hrn
    rw [← hrne]
    refine JA.tk 5 rfl (.none rfl) (fun _ => (Ev.assign rfl)) ?_
    refine JA.done (by kernel_rfl) ?_
    refine JQ.thenN ?_
    refine JC.ret ?_
    refine JQ.thenR ?_
    refine JQ.end1 (H' := (Row.b 22 rn)) (.inl rfl) rfl (.tmp rfl) ?_ ?_
    · exact Sub.of_cnt (fun a => by (try dsimp only); simp only [cntA]; omega)
    · first | exact ⟨rn, by rw [withR_even he, List.length_append]; rfl, rfl, by rw [withR_even he, List.length_append, fl_append]; exact hrn⟩ | exact ⟨rn, by rw [withR_odd he], rfl, by rw [withR_odd he]; exact hrn⟩
  · -- t9 False
    replace hc1 := of_decide_eq_false hc1
    have he : ¬ n % 2 = 0 := by omega
    have hn0 : n ≠ 0 := by omega
    have hop := onesR_pos hn0
    have hn1 : n % 2 = 1 := by omega
    obtain ⟨q, y, rfl, hq⟩ : ∃ q y, ds = q ++ [y] ∧ q.length = onesR (n / 2) := by obtain ⟨q, y, h3, h4⟩ := ends_ex (p := ds) (k := onesR (n / 2)) (by omega); exact ⟨q, y, h3, h4⟩
    have hql : (q ++ [y]).length = q.length + 1 := by simp
    have hle := hd.le
    obtain ⟨a, rfl⟩ := Cs.get_some hd (by omega)
    have hy0 : (q ++ [y])[q.length]? = some y := by simp
    have hol := onesR_le n
    refine JC.skip ?_
    refine JQ.thenN ?_
    refine JC.seq ?_
    refine JC.regionA (by kernel_rfl) ?_
    refine JA.tk 0 rfl (.none rfl) (fun _ => (Ev.move rfl)) ?_
    refine JA.tk 1 rfl (.none rfl) (fun _ => (Ev.move rfl)) ?_
    refine JA.tk 5 rfl (.none rfl) (fun _ => (Ev.move rfl)) ?_
    refine JA.tk 6 rfl (.none rfl) (fun _ => (Ev.cast (v' := .int .i64 ((n / 2 : Nat) : Int)) (congrArg (Value.int .i64) (by omega)) (Ev.bin rfl rfl (quo_i64 (by omega))))) ?_
    refine JA.tk 7 rfl (.none rfl) (fun _ => (Ev.move rfl)) ?_
    refine JA.tk 8 rfl (.none rfl) (fun _ => (Ev.move rfl)) ?_
    refine JA.branch [2, 9, 13] (by kernel_rfl) rfl ?_
    refine JAll.cons rfl ?_ ?_
    · -- 2
      refine JO.val rfl rfl rfl (.none rfl) (Ev.lenS rfl Tryd.underlying23) ?_
      refine JA.tk 3 rfl (.none rfl) (fun _ => (Ev.bin rfl rfl (sub_i64 (by omega)))) ?_
      refine JA.tk 4 rfl (.none rfl) (fun _ => (Ev.cast (v' := .slice (some a) q.length cap) (sub3_0) (Ev.sliceHi rfl rfl Tryd.underlying23 Tryd.sizeOf22 (h := q.length) (by omega) (by have := hd.le; omega)))) ?_
      refine JA.branch [9, 13] (by kernel_rfl) rfl ?_
      refine JAll.cons rfl ?_ ?_
      · -- 9
        refine JO.val rfl rfl rfl (.none rfl) (Ev.lenS rfl Tryd.underlying23) ?_
        refine JA.tk 10 rfl (.none rfl) (fun _ => (Ev.bin rfl rfl (sub_i64 (by omega)))) ?_
        refine JA.tk 11 rfl (.none rfl) (fun _ => (Ev.idxS rfl rfl Tryd.underlying23 Tryd.sizeOf22 (k := q.length) (by omega) (by omega))) ?_
        refine JA.branch [12, 13] (by kernel_rfl) rfl ?_
        refine JAll.cons rfl ?_ ?_
        · -- 12
          refine JO.val rfl rfl rfl (.none rfl) (Ev.loadD rfl Tryd.underlying22 rfl Tryd.sizeOf22 (Rds.old ((hd.mem a rfl).atD hy0))) ?_
          refine JA.one 13 ?_
          refine JO.val rfl rfl rfl (.none rfl) (Ev.lB Tryd.underlying22 Tryd.sizeOf22) ?_
          refine JA.one 14 ?_
          refine JO.callV rfl (.none rfl) rfl Tryd.call53 (fun w1 hw1 => rNodeG_any _ _ w1) ?_
          refine JA.one 15 ?_
          refine JO.callN rfl (.none rfl) rfl Tryd.call50 (fun w1 hw1 => ih (some a) cap q (n / 2) (nodeD y x) w1 (Dl.init (hd.old hw1)) (by omega) hq (by omega)) ?_
          rintro _ _ ⟨rn, rfl, rfl, hrn⟩
          refine JA.tk 16 rfl (.none rfl) (fun _ => (Ev.assign rfl)) ?_
          refine JA.done (by kernel_rfl) ?_
          refine JQ.thenN ?_
          refine JC.ret ?_
          refine JQ.end1 (H' := (Row.b 22 rn)) (.inl rfl) rfl (.tmp rfl) ?_ ?_
          · exact Sub.of_cnt (fun a => by (try dsimp only); simp only [cntA]; omega)
          · first | exact ⟨rn, by rw [withR_even he, List.length_append]; rfl, rfl, by rw [withR_even he, List.length_append, fl_append]; exact hrn⟩ | exact ⟨rn, by rw [withR_odd he], rfl, by rw [withR_odd he]; exact hrn⟩
        refine JAll.cons rfl ?_ JAll.nil
        refine JO.val rfl rfl rfl (.none rfl) (Ev.lB Tryd.underlying22 Tryd.sizeOf22) ?_
        refine JA.one 12 ?_
        refine JO.val rfl rfl rfl (.none rfl) (Ev.loadD rfl Tryd.underlying22 rfl Tryd.sizeOf22 (Rds.old ((hd.mem a rfl).atD hy0))) ?_
        refine JA.one 14 ?_
        refine JO.callV rfl (.none rfl) rfl Tryd.call53 (fun w1 hw1 => rNodeG_any _ _ w1) ?_
        refine JA.one 15 ?_
        refine JO.callN rfl (.none rfl) rfl Tryd.call50 (fun w1 hw1 => ih (some a) cap q (n / 2) (nodeD y x) w1 (Dl.init (hd.old hw1)) (by omega) hq (by omega)) ?_
        rintro _ _ ⟨rn, rfl, rfl, hrn⟩
        refine JA.tk 16 rfl (.none rfl) (fun _ => (Ev.assign rfl)) ?_
        refine JA.done (by kernel_rfl) ?_
        refine JQ.thenN ?_
        refine JC.ret ?_
        refine JQ.end1 (H' := (Row.b 22 rn)) (.inl rfl) rfl (.tmp rfl) ?_ ?_
        · exact Sub.of_cnt (fun a => by (try dsimp only); simp only [cntA]; omega)
        · first | exact ⟨rn, by rw [withR_even he, List.length_append]; rfl, rfl, by rw [withR_even he, List.length_append, fl_append]; exact hrn⟩ | exact ⟨rn, by rw [withR_odd he], rfl, by rw [withR_odd he]; exact hrn⟩
      refine JAll.cons rfl ?_ JAll.nil
      refine JO.val rfl rfl rfl (.none rfl) (Ev.lB Tryd.underlying22 Tryd.sizeOf22) ?_
      refine JA.one 9 ?_
      refine JO.val rfl rfl rfl (.none rfl) (Ev.lenS rfl Tryd.underlying23) ?_
      refine JA.tk 10 rfl (.none rfl) (fun _ => (Ev.bin rfl rfl (sub_i64 (by omega)))) ?_
      refine JA.tk 11 rfl (.none rfl) (fun _ => (Ev.idxS rfl rfl Tryd.underlying23 Tryd.sizeOf22 (k := q.length) (by omega) (by omega))) ?_
      refine JA.one 12 ?_
      refine JO.val rfl rfl rfl (.none rfl) (Ev.loadD rfl Tryd.underlying22 rfl Tryd.sizeOf22 (Rds.old ((hd.mem a rfl).atD hy0))) ?_
      refine JA.one 14 ?_
      refine JO.callV rfl (.none rfl) rfl Tryd.call53 (fun w1 hw1 => rNodeG_any _ _ w1) ?_
      refine JA.one 15 ?_
      refine JO.callN rfl (.none rfl) rfl Tryd.call50 (fun w1 hw1 => ih (some a) cap q (n / 2) (nodeD y x) w1 (Dl.init (hd.old hw1)) (by omega) hq (by omega)) ?_
      rintro _ _ ⟨rn, rfl, rfl, hrn⟩
      refine JA.tk 16 rfl (.none rfl) (fun _ => (Ev.assign rfl)) ?_
      refine JA.done (by kernel_rfl) ?_
      refine JQ.thenN ?_
      refine JC.ret ?_
      refine JQ.end1 (H' := (Row.b 22 rn)) (.inl rfl) rfl (.tmp rfl) ?_ ?_
      · exact Sub.of_cnt (fun a => by (try dsimp only); simp only [cntA]; omega)
      · first | exact ⟨rn, by rw [withR_even he, List.length_append]; rfl, rfl, by rw [withR_even he, List.length_append, fl_append]; exact hrn⟩ | exact ⟨rn, by rw [withR_odd he], rfl, by rw [withR_odd he]; exact hrn⟩
    refine JAll.cons rfl ?_ ?_
    · -- 9
      refine JO.val rfl rfl rfl (.none rfl) (Ev.lenS rfl Tryd.underlying23) ?_
      refine JA.tk 10 rfl (.none rfl) (fun _ => (Ev.bin rfl rfl (sub_i64 (by omega)))) ?_
      refine JA.tk 11 rfl (.none rfl) (fun _ => (Ev.idxS rfl rfl Tryd.underlying23 Tryd.sizeOf22 (k := q.length) (by omega) (by omega))) ?_
      refine JA.branch [2, 12, 13] (by kernel_rfl) rfl ?_
      refine JAll.cons rfl ?_ ?_
      · -- 2
        refine JO.val rfl rfl rfl (.none rfl) (Ev.lenS rfl Tryd.underlying23) ?_
        refine JA.tk 3 rfl (.none rfl) (fun _ => (Ev.bin rfl rfl (sub_i64 (by omega)))) ?_
        refine JA.tk 4 rfl (.none rfl) (fun _ => (Ev.cast (v' := .slice (some a) q.length cap) (sub3_0) (Ev.sliceHi rfl rfl Tryd.underlying23 Tryd.sizeOf22 (h := q.length) (by omega) (by have := hd.le; omega)))) ?_
        refine JA.branch [12, 13] (by kernel_rfl) rfl ?_
        refine JAll.cons rfl ?_ ?_
        · -- 12
          refine JO.val rfl rfl rfl (.none rfl) (Ev.loadD rfl Tryd.underlying22 rfl Tryd.sizeOf22 (Rds.old ((hd.mem a rfl).atD hy0))) ?_
          refine JA.one 13 ?_
          refine JO.val rfl rfl rfl (.none rfl) (Ev.lB Tryd.underlying22 Tryd.sizeOf22) ?_
          refine JA.one 14 ?_
          refine JO.callV rfl (.none rfl) rfl Tryd.call53 (fun w1 hw1 => rNodeG_any _ _ w1) ?_
          refine JA.one 15 ?_
          refine JO.callN rfl (.none rfl) rfl Tryd.call50 (fun w1 hw1 => ih (some a) cap q (n / 2) (nodeD y x) w1 (Dl.init (hd.old hw1)) (by omega) hq (by omega)) ?_
          rintro _ _ ⟨rn, rfl, rfl, hrn⟩
          refine JA.tk 16 rfl (.none rfl) (fun _ => (Ev.assign rfl)) ?_
          refine JA.done (by kernel_rfl) ?_
          refine JQ.thenN ?_
          refine JC.ret ?_
          refine JQ.end1 (H' := (Row.b 22 rn)) (.inl rfl) rfl (.tmp rfl) ?_ ?_
          · exact Sub.of_cnt (fun a => by (try dsimp only); simp only [cntA]; omega)
          · first | exact ⟨rn, by rw [withR_even he, List.length_append]; rfl, rfl, by rw [withR_even he, List.length_append, fl_append]; exact hrn⟩ | exact ⟨rn, by rw [withR_odd he], rfl, by rw [withR_odd he]; exact hrn⟩
        refine JAll.cons rfl ?_ JAll.nil
        refine JO.val rfl rfl rfl (.none rfl) (Ev.lB Tryd.underlying22 Tryd.sizeOf22) ?_
        refine JA.one 12 ?_
        refine JO.val rfl rfl rfl (.none rfl) (Ev.loadD rfl Tryd.underlying22 rfl Tryd.sizeOf22 (Rds.old ((hd.mem a rfl).atD hy0))) ?_
        refine JA.one 14 ?_
        refine JO.callV rfl (.none rfl) rfl Tryd.call53 (fun w1 hw1 => rNodeG_any _ _ w1) ?_
        refine JA.one 15 ?_
        refine JO.callN rfl (.none rfl) rfl Tryd.call50 (fun w1 hw1 => ih (some a) cap q (n / 2) (nodeD y x) w1 (Dl.init (hd.old hw1)) (by omega) hq (by omega)) ?_
        rintro _ _ ⟨rn, rfl, rfl, hrn⟩
        refine JA.tk 16 rfl (.none rfl) (fun _ => (Ev.assign rfl)) ?_
        refine JA.done (by kernel_rfl) ?_
        refine JQ.thenN ?_
        refine JC.ret ?_
        refine JQ.end1 (H' := (Row.b 22 rn)) (.inl rfl) rfl (.tmp rfl) ?_ ?_
        · exact Sub.of_cnt (fun a => by (try dsimp only); simp only [cntA]; omega)
        · first | exact ⟨rn, by rw [withR_even he, List.length_append]; rfl, rfl, by rw [withR_even he, List.length_append, fl_append]; exact hrn⟩ | exact ⟨rn, by rw [withR_odd he], rfl, by rw [withR_odd he]; exact hrn⟩
      refine JAll.cons rfl ?_ ?_
      · -- 12
        refine JO.val rfl rfl rfl (.none rfl) (Ev.loadD rfl Tryd.underlying22 rfl Tryd.sizeOf22 (Rds.old ((hd.mem a rfl).atD hy0))) ?_
        refine JA.branch [2, 13] (by kernel_rfl) rfl ?_
        refine JAll.cons rfl ?_ ?_
        · -- 2
          refine JO.val rfl rfl rfl (.none rfl) (Ev.lenS rfl Tryd.underlying23) ?_
          refine JA.tk 3 rfl (.none rfl) (fun _ => (Ev.bin rfl rfl (sub_i64 (by omega)))) ?_
          refine JA.tk 4 rfl (.none rfl) (fun _ => (Ev.cast (v' := .slice (some a) q.length cap) (sub3_0) (Ev.sliceHi rfl rfl Tryd.underlying23 Tryd.sizeOf22 (h := q.length) (by omega) (by have := hd.le; omega)))) ?_
          refine JA.one 13 ?_
          refine JO.val rfl rfl rfl (.none rfl) (Ev.lB Tryd.underlying22 Tryd.sizeOf22) ?_
          refine JA.one 14 ?_
          refine JO.callV rfl (.none rfl) rfl Tryd.call53 (fun w1 hw1 => rNodeG_any _ _ w1) ?_
          refine JA.one 15 ?_
          refine JO.callN rfl (.none rfl) rfl Tryd.call50 (fun w1 hw1 => ih (some a) cap q (n / 2) (nodeD y x) w1 (Dl.init (hd.old hw1)) (by omega) hq (by omega)) ?_
          rintro _ _ ⟨rn, rfl, rfl, hrn⟩
          refine JA.tk 16 rfl (.none rfl) (fun _ => (Ev.assign rfl)) ?_
          refine JA.done (by kernel_rfl) ?_
          refine JQ.thenN ?_
          refine JC.ret ?_
          refine JQ.end1 (H' := (Row.b 22 rn)) (.inl rfl) rfl (.tmp rfl) ?_ ?_
          · exact Sub.of_cnt (fun a => by (try dsimp only); simp only [cntA]; omega)
          · first | exact ⟨rn, by rw [withR_even he, List.length_append]; rfl, rfl, by rw [withR_even he, List.length_append, fl_append]; exact hrn⟩ | exact ⟨rn, by rw [withR_odd he], rfl, by rw [withR_odd he]; exact hrn⟩
        refine JAll.cons rfl ?_ JAll.nil
        refine JO.val rfl rfl rfl (.none rfl) (Ev.lB Tryd.underlying22 Tryd.sizeOf22) ?_
        refine JA.branch [2, 14] (by kernel_rfl) rfl ?_
        refine JAll.cons rfl ?_ ?_
        · -- 2
          refine JO.val rfl rfl rfl (.none rfl) (Ev.lenS rfl Tryd.underlying23) ?_
          refine JA.tk 3 rfl (.none rfl) (fun _ => (Ev.bin rfl rfl (sub_i64 (by omega)))) ?_
          refine JA.tk 4 rfl (.none rfl) (fun _ => (Ev.cast (v' := .slice (some a) q.length cap) (sub3_0) (Ev.sliceHi rfl rfl Tryd.underlying23 Tryd.sizeOf22 (h := q.length) (by omega) (by have := hd.le; omega)))) ?_
          refine JA.one 14 ?_
          refine JO.callV rfl (.none rfl) rfl Tryd.call53 (fun w1 hw1 => rNodeG_any _ _ w1) ?_
          refine JA.one 15 ?_
          refine JO.callN rfl (.none rfl) rfl Tryd.call50 (fun w1 hw1 => ih (some a) cap q (n / 2) (nodeD y x) w1 (Dl.init (hd.old hw1)) (by omega) hq (by omega)) ?_
          rintro _ _ ⟨rn, rfl, rfl, hrn⟩
          refine JA.tk 16 rfl (.none rfl) (fun _ => (Ev.assign rfl)) ?_
          refine JA.done (by kernel_rfl) ?_
          refine JQ.thenN ?_
          refine JC.ret ?_
          refine JQ.end1 (H' := (Row.b 22 rn)) (.inl rfl) rfl (.tmp rfl) ?_ ?_
          · exact Sub.of_cnt (fun a => by (try dsimp only); simp only [cntA]; omega)
          · first | exact ⟨rn, by rw [withR_even he, List.length_append]; rfl, rfl, by rw [withR_even he, List.length_append, fl_append]; exact hrn⟩ | exact ⟨rn, by rw [withR_odd he], rfl, by rw [withR_odd he]; exact hrn⟩
        refine JAll.cons rfl ?_ JAll.nil
        refine JO.callV rfl (.none rfl) rfl Tryd.call53 (fun w1 hw1 => rNodeG_any _ _ w1) ?_
        refine JA.one 2 ?_
        refine JO.val rfl rfl rfl (.none rfl) (Ev.lenS rfl Tryd.underlying23) ?_
        refine JA.tk 3 rfl (.none rfl) (fun _ => (Ev.bin rfl rfl (sub_i64 (by omega)))) ?_
        refine JA.tk 4 rfl (.none rfl) (fun _ => (Ev.cast (v' := .slice (some a) q.length cap) (sub3_0) (Ev.sliceHi rfl rfl Tryd.underlying23 Tryd.sizeOf22 (h := q.length) (by omega) (by have := hd.le; omega)))) ?_
        refine JA.one 15 ?_
        refine JO.callN rfl (.none rfl) rfl Tryd.call50 (fun w1 hw1 => ih (some a) cap q (n / 2) (nodeD y x) w1 (Dl.init (hd.old hw1)) (by omega) hq (by omega)) ?_
        rintro _ _ ⟨rn, rfl, rfl, hrn⟩
        refine JA.tk 16 rfl (.none rfl) (fun _ => (Ev.assign rfl)) ?_
        refine JA.done (by kernel_rfl) ?_
        refine JQ.thenN ?_
        refine JC.ret ?_
        refine JQ.end1 (H' := (Row.b 22 rn)) (.inl rfl) rfl (.tmp rfl) ?_ ?_
        · exact Sub.of_cnt (fun a => by (try dsimp only); simp only [cntA]; omega)
        · first | exact ⟨rn, by rw [withR_even he, List.length_append]; rfl, rfl, by rw [withR_even he, List.length_append, fl_append]; exact hrn⟩ | exact ⟨rn, by rw [withR_odd he], rfl, by rw [withR_odd he]; exact hrn⟩
      refine JAll.cons rfl ?_ JAll.nil
      refine JO.val rfl rfl rfl (.none rfl) (Ev.lB Tryd.underlying22 Tryd.sizeOf22) ?_
      refine JA.branch [2, 12] (by kernel_rfl) rfl ?_
      refine JAll.cons rfl ?_ ?_
      · -- 2
        refine JO.val rfl rfl rfl (.none rfl) (Ev.lenS rfl Tryd.underlying23) ?_
        refine JA.tk 3 rfl (.none rfl) (fun _ => (Ev.bin rfl rfl (sub_i64 (by omega)))) ?_
        refine JA.tk 4 rfl (.none rfl) (fun _ => (Ev.cast (v' := .slice (some a) q.length cap) (sub3_0) (Ev.sliceHi rfl rfl Tryd.underlying23 Tryd.sizeOf22 (h := q.length) (by omega) (by have := hd.le; omega)))) ?_
        refine JA.one 12 ?_
        refine JO.val rfl rfl rfl (.none rfl) (Ev.loadD rfl Tryd.underlying22 rfl Tryd.sizeOf22 (Rds.old ((hd.mem a rfl).atD hy0))) ?_
        refine JA.one 14 ?_
        refine JO.callV rfl (.none rfl) rfl Tryd.call53 (fun w1 hw1 => rNodeG_any _ _ w1) ?_
        refine JA.one 15 ?_
        refine JO.callN rfl (.none rfl) rfl Tryd.call50 (fun w1 hw1 => ih (some a) cap q (n / 2) (nodeD y x) w1 (Dl.init (hd.old hw1)) (by omega) hq (by omega)) ?_
        rintro _ _ ⟨rn, rfl, rfl, hrn⟩
        refine JA.tk 16 rfl (.none rfl) (fun _ => (Ev.assign rfl)) ?_
        refine JA.done (by kernel_rfl) ?_
        refine JQ.thenN ?_
        refine JC.ret ?_
        refine JQ.end1 (H' := (Row.b 22 rn)) (.inl rfl) rfl (.tmp rfl) ?_ ?_
        · exact Sub.of_cnt (fun a => by (try dsimp only); simp only [cntA]; omega)
        · first | exact ⟨rn, by rw [withR_even he, List.length_append]; rfl, rfl, by rw [withR_even he, List.length_append, fl_append]; exact hrn⟩ | exact ⟨rn, by rw [withR_odd he], rfl, by rw [withR_odd he]; exact hrn⟩
      refine JAll.cons rfl ?_ JAll.nil
      refine JO.val rfl rfl rfl (.none rfl) (Ev.loadD rfl Tryd.underlying22 rfl Tryd.sizeOf22 (Rds.old ((hd.mem a rfl).atD hy0))) ?_
      refine JA.branch [2, 14] (by kernel_rfl) rfl ?_
      refine JAll.cons rfl ?_ ?_
      · -- 2
        refine JO.val rfl rfl rfl (.none rfl) (Ev.lenS rfl Tryd.underlying23) ?_
        refine JA.tk 3 rfl (.none rfl) (fun _ => (Ev.bin rfl rfl (sub_i64 (by omega)))) ?_
        refine JA.tk 4 rfl (.none rfl) (fun _ => (Ev.cast (v' := .slice (some a) q.length cap) (sub3_0) (Ev.sliceHi rfl rfl Tryd.underlying23 Tryd.sizeOf22 (h := q.length) (by omega) (by have := hd.le; omega)))) ?_
        refine JA.one 14 ?_
        refine JO.callV rfl (.none rfl) rfl Tryd.call53 (fun w1 hw1 => rNodeG_any _ _ w1) ?_
        refine JA.one 15 ?_
        refine JO.callN rfl (.none rfl) rfl Tryd.call50 (fun w1 hw1 => ih (some a) cap q (n / 2) (nodeD y x) w1 (Dl.init (hd.old hw1)) (by omega) hq (by omega)) ?_
        rintro _ _ ⟨rn, rfl, rfl, hrn⟩
        refine JA.tk 16 rfl (.none rfl) (fun _ => (Ev.assign rfl)) ?_
        refine JA.done (by kernel_rfl) ?_
        refine JQ.thenN ?_
        refine JC.ret ?_
        refine JQ.end1 (H' := (Row.b 22 rn)) (.inl rfl) rfl (.tmp rfl) ?_ ?_
        · exact Sub.of_cnt (fun a => by (try dsimp only); simp only [cntA]; omega)
        · first | exact ⟨rn, by rw [withR_even he, List.length_append]; rfl, rfl, by rw [withR_even he, List.length_append, fl_append]; exact hrn⟩ | exact ⟨rn, by rw [withR_odd he], rfl, by rw [withR_odd he]; exact hrn⟩
      refine JAll.cons rfl ?_ JAll.nil
      refine JO.callV rfl (.none rfl) rfl Tryd.call53 (fun w1 hw1 => rNodeG_any _ _ w1) ?_
      refine JA.one 2 ?_
      refine JO.val rfl rfl rfl (.none rfl) (Ev.lenS rfl Tryd.underlying23) ?_
      refine JA.tk 3 rfl (.none rfl) (fun _ => (Ev.bin rfl rfl (sub_i64 (by omega)))) ?_
      refine JA.tk 4 rfl (.none rfl) (fun _ => (Ev.cast (v' := .slice (some a) q.length cap) (sub3_0) (Ev.sliceHi rfl rfl Tryd.underlying23 Tryd.sizeOf22 (h := q.length) (by omega) (by have := hd.le; omega)))) ?_
      refine JA.one 15 ?_
      refine JO.callN rfl (.none rfl) rfl Tryd.call50 (fun w1 hw1 => ih (some a) cap q (n / 2) (nodeD y x) w1 (Dl.init (hd.old hw1)) (by omega) hq (by omega)) ?_
      rintro _ _ ⟨rn, rfl, rfl, hrn⟩
      refine JA.tk 16 rfl (.none rfl) (fun _ => (Ev.assign rfl)) ?_
      refine JA.done (by kernel_rfl) ?_
      refine JQ.thenN ?_
      refine JC.ret ?_
      refine JQ.end1 (H' := (Row.b 22 rn)) (.inl rfl) rfl (.tmp rfl) ?_ ?_
      · exact Sub.of_cnt (fun a => by (try dsimp only); simp only [cntA]; omega)
      · first | exact ⟨rn, by rw [withR_even he, List.length_append]; rfl, rfl, by rw [withR_even he, List.length_append, fl_append]; exact hrn⟩ | exact ⟨rn, by rw [withR_odd he], rfl, by rw [withR_odd he]; exact hrn⟩
    refine JAll.cons rfl ?_ JAll.nil
    refine JO.val rfl rfl rfl (.none rfl) (Ev.lB Tryd.underlying22 Tryd.sizeOf22) ?_
    refine JA.branch [2, 9] (by kernel_rfl) rfl ?_
    refine JAll.cons rfl ?_ ?_
    · -- 2
      refine JO.val rfl rfl rfl (.none rfl) (Ev.lenS rfl Tryd.underlying23) ?_
      refine JA.tk 3 rfl (.none rfl) (fun _ => (Ev.bin rfl rfl (sub_i64 (by omega)))) ?_
      refine JA.tk 4 rfl (.none rfl) (fun _ => (Ev.cast (v' := .slice (some a) q.length cap) (sub3_0) (Ev.sliceHi rfl rfl Tryd.underlying23 Tryd.sizeOf22 (h := q.length) (by omega) (by have := hd.le; omega)))) ?_
      refine JA.one 9 ?_
      refine JO.val rfl rfl rfl (.none rfl) (Ev.lenS rfl Tryd.underlying23) ?_
      refine JA.tk 10 rfl (.none rfl) (fun _ => (Ev.bin rfl rfl (sub_i64 (by omega)))) ?_
      refine JA.tk 11 rfl (.none rfl) (fun _ => (Ev.idxS rfl rfl Tryd.underlying23 Tryd.sizeOf22 (k := q.length) (by omega) (by omega))) ?_
      refine JA.one 12 ?_
      refine JO.val rfl rfl rfl (.none rfl) (Ev.loadD rfl Tryd.underlying22 rfl Tryd.sizeOf22 (Rds.old ((hd.mem a rfl).atD hy0))) ?_
      refine JA.one 14 ?_
      refine JO.callV rfl (.none rfl) rfl Tryd.call53 (fun w1 hw1 => rNodeG_any _ _ w1) ?_
      refine JA.one 15 ?_
      refine JO.callN rfl (.none rfl) rfl Tryd.call50 (fun w1 hw1 => ih (some a) cap q (n / 2) (nodeD y x) w1 (Dl.init (hd.old hw1)) (by omega) hq (by omega)) ?_
      rintro _ _ ⟨rn, rfl, rfl, hrn⟩
      refine JA.tk 16 rfl (.none rfl) (fun _ => (Ev.assign rfl)) ?_
      refine JA.done (by kernel_rfl) ?_
      refine JQ.thenN ?_
      refine JC.ret ?_
      refine JQ.end1 (H' := (Row.b 22 rn)) (.inl rfl) rfl (.tmp rfl) ?_ ?_
      · exact Sub.of_cnt (fun a => by (try dsimp only); simp only [cntA]; omega)
      · first | exact ⟨rn, by rw [withR_even he, List.length_append]; rfl, rfl, by rw [withR_even he, List.length_append, fl_append]; exact hrn⟩ | exact ⟨rn, by rw [withR_odd he], rfl, by rw [withR_odd he]; exact hrn⟩
    refine JAll.cons rfl ?_ JAll.nil
    refine JO.val rfl rfl rfl (.none rfl) (Ev.lenS rfl Tryd.underlying23) ?_
    refine JA.tk 10 rfl (.none rfl) (fun _ => (Ev.bin rfl rfl (sub_i64 (by omega)))) ?_
    refine JA.tk 11 rfl (.none rfl) (fun _ => (Ev.idxS rfl rfl Tryd.underlying23 Tryd.sizeOf22 (k := q.length) (by omega) (by omega))) ?_
    refine JA.branch [2, 12] (by kernel_rfl) rfl ?_
    refine JAll.cons rfl ?_ ?_
    · -- 2
      refine JO.val rfl rfl rfl (.none rfl) (Ev.lenS rfl Tryd.underlying23) ?_
      refine JA.tk 3 rfl (.none rfl) (fun _ => (Ev.bin rfl rfl (sub_i64 (by omega)))) ?_
      refine JA.tk 4 rfl (.none rfl) (fun _ => (Ev.cast (v' := .slice (some a) q.length cap) (sub3_0) (Ev.sliceHi rfl rfl Tryd.underlying23 Tryd.sizeOf22 (h := q.length) (by omega) (by have := hd.le; omega)))) ?_
      refine JA.one 12 ?_
      refine JO.val rfl rfl rfl (.none rfl) (Ev.loadD rfl Tryd.underlying22 rfl Tryd.sizeOf22 (Rds.old ((hd.mem a rfl).atD hy0))) ?_
      refine JA.one 14 ?_
      refine JO.callV rfl (.none rfl) rfl Tryd.call53 (fun w1 hw1 => rNodeG_any _ _ w1) ?_
      refine JA.one 15 ?_
      refine JO.callN rfl (.none rfl) rfl Tryd.call50 (fun w1 hw1 => ih (some a) cap q (n / 2) (nodeD y x) w1 (Dl.init (hd.old hw1)) (by omega) hq (by omega)) ?_
      rintro _ _ ⟨rn, rfl, rfl, hrn⟩
      refine JA.tk 16 rfl (.none rfl) (fun _ => (Ev.assign rfl)) ?_
      refine JA.done (by kernel_rfl) ?_
      refine JQ.thenN ?_
      refine JC.ret ?_
      refine JQ.end1 (H' := (Row.b 22 rn)) (.inl rfl) rfl (.tmp rfl) ?_ ?_
      · exact Sub.of_cnt (fun a => by (try dsimp only); simp only [cntA]; omega)
      · first | exact ⟨rn, by rw [withR_even he, List.length_append]; rfl, rfl, by rw [withR_even he, List.length_append, fl_append]; exact hrn⟩ | exact ⟨rn, by rw [withR_odd he], rfl, by rw [withR_odd he]; exact hrn⟩
    refine JAll.cons rfl ?_ JAll.nil
    refine JO.val rfl rfl rfl (.none rfl) (Ev.loadD rfl Tryd.underlying22 rfl Tryd.sizeOf22 (Rds.old ((hd.mem a rfl).atD hy0))) ?_
    refine JA.branch [2, 14] (by kernel_rfl) rfl ?_
    refine JAll.cons rfl ?_ ?_
    · -- 2
      refine JO.val rfl rfl rfl (.none rfl) (Ev.lenS rfl Tryd.underlying23) ?_
      refine JA.tk 3 rfl (.none rfl) (fun _ => (Ev.bin rfl rfl (sub_i64 (by omega)))) ?_
      refine JA.tk 4 rfl (.none rfl) (fun _ => (Ev.cast (v' := .slice (some a) q.length cap) (sub3_0) (Ev.sliceHi rfl rfl Tryd.underlying23 Tryd.sizeOf22 (h := q.length) (by omega) (by have := hd.le; omega)))) ?_
      refine JA.one 14 ?_
      refine JO.callV rfl (.none rfl) rfl Tryd.call53 (fun w1 hw1 => rNodeG_any _ _ w1) ?_
      refine JA.one 15 ?_
      refine JO.callN rfl (.none rfl) rfl Tryd.call50 (fun w1 hw1 => ih (some a) cap q (n / 2) (nodeD y x) w1 (Dl.init (hd.old hw1)) (by omega) hq (by omega)) ?_
      rintro _ _ ⟨rn, rfl, rfl, hrn⟩
      refine JA.tk 16 rfl (.none rfl) (fun _ => (Ev.assign rfl)) ?_
      refine JA.done (by kernel_rfl) ?_
      refine JQ.thenN ?_
      refine JC.ret ?_
      refine JQ.end1 (H' := (Row.b 22 rn)) (.inl rfl) rfl (.tmp rfl) ?_ ?_
      · exact Sub.of_cnt (fun a => by (try dsimp only); simp only [cntA]; omega)
      · first | exact ⟨rn, by rw [withR_even he, List.length_append]; rfl, rfl, by rw [withR_even he, List.length_append, fl_append]; exact hrn⟩ | exact ⟨rn, by rw [withR_odd he], rfl, by rw [withR_odd he]; exact hrn⟩
    refine JAll.cons rfl ?_ JAll.nil
    refine JO.callV rfl (.none rfl) rfl Tryd.call53 (fun w1 hw1 => rNodeG_any _ _ w1) ?_
    refine JA.one 2 ?_
    refine JO.val rfl rfl rfl (.none rfl) (Ev.lenS rfl Tryd.underlying23) ?_
    refine JA.tk 3 rfl (.none rfl) (fun _ => (Ev.bin rfl rfl (sub_i64 (by omega)))) ?_
    refine JA.tk 4 rfl (.none rfl) (fun _ => (Ev.cast (v' := .slice (some a) q.length cap) (sub3_0) (Ev.sliceHi rfl rfl Tryd.underlying23 Tryd.sizeOf22 (h := q.length) (by omega) (by have := hd.le; omega)))) ?_
    refine JA.one 15 ?_
    refine JO.callN rfl (.none rfl) rfl Tryd.call50 (fun w1 hw1 => ih (some a) cap q (n / 2) (nodeD y x) w1 (Dl.init (hd.old hw1)) (by omega) hq (by omega)) ?_
    rintro _ _ ⟨rn, rfl, rfl, hrn⟩
    refine JA.tk 16 rfl (.none rfl) (fun _ => (Ev.assign rfl)) ?_
    refine JA.done (by kernel_rfl) ?_
    refine JQ.thenN ?_
    refine JC.ret ?_
    refine JQ.end1 (H' := (Row.b 22 rn)) (.inl rfl) rfl (.tmp rfl) ?_ ?_
    · exact Sub.of_cnt (fun a => by (try dsimp only); simp only [cntA]; omega)
    · first | exact ⟨rn, by rw [withR_even he, List.length_append]; rfl, rfl, by rw [withR_even he, List.length_append, fl_append]; exact hrn⟩ | exact ⟨rn, by rw [withR_odd he], rfl, by rw [withR_odd he]; exact hrn⟩
theorem with_any (oa : Option Addr) (cap : Nat) (ds : List Dig) (n : Nat) (x : Dig) (w : World) (hd : Dl w oa cap ds) (hmx : n < 1024) (hon : ds.length = onesR n) :
    Calls Tryd.prog 50 #[.slice oa ds.length cap, .int .i64 (n : Int), .agg (arr8 x.1)] w (Ret w (fun v H => ∃ r : Option Row, v = Row.v (withR ds n x).length r ∧ H = Row.b 22 r ∧ Row.ok 32 (withR ds n x).length (fl (withR ds n x)) r)) := by
  have key : ∀ (N : Nat) (oa : Option Addr) (cap : Nat) (ds : List Dig) (n : Nat) (x : Dig) (w : World) (hd : Dl w oa cap ds) (hmx : n < 1024) (hon : ds.length = onesR n), n = N → Calls Tryd.prog 50 #[.slice oa ds.length cap, .int .i64 (n : Int), .agg (arr8 x.1)] w (Ret w (fun v H => ∃ r : Option Row, v = Row.v (withR ds n x).length r ∧ H = Row.b 22 r ∧ Row.ok 32 (withR ds n x).length (fl (withR ds n x)) r)) := by
    intro N
    induction N using Nat.strongRecOn with
    | _ N IH =>
      intro oa cap ds n x w hd hmx hon hN
      exact with_any_step N (fun oa cap ds n x w hd hmx hon hlt => IH _ hlt oa cap ds n x w hd hmx hon rfl) oa cap ds n x w hd hmx hon hN
  exact key _ oa cap ds n x w hd hmx hon rfl

theorem rAppend_any (oa : Option Addr) (cap : Nat) (ds : List Dig) (n : Int) (hnb : -9223372036854775808 ≤ n ∧ n ≤ 9223372036854775807) (x : Dig) (w : World) (hd : Dl w oa cap ds) :
    Calls Tryd.prog 25 #[.slice oa ds.length cap, .int .i64 n, .agg (arr8 x.1)] w (Ret w (fun v H => ∃ r : Option Row, v = .tuple #[Row.v (apV ds n x).length r, .int .i64 (apE ds n)] ∧ H = Row.b 22 r ∧ Row.ok 32 (apV ds n x).length (fl (apV ds n x)) r)) := by
  refine enter (vs := [.slice oa ds.length cap, .int .i64 n, .agg (arr8 x.1)]) Tryd.func25 rfl Tryd.ntmps25 rfl ?_
  refine JC.seq ?_
  refine JC.region ?_
  refine JL.new rfl rfl rfl (.none rfl) (En.boxA rfl) (fun b5 hb5 => ?_)
  refine JL.asg ?_
  refine JL.asg ?_
  refine JL.nil ?_
  refine JQ.thenN ?_
  refine JC.seq ?_
  refine JC.seq ?_
  refine JC.region ?_
  refine JL.mv ?_
  refine JL.val rfl rfl rfl (.none rfl) (Ev.bin rfl rfl lss_int) ?_
  refine JL.mv ?_
  refine JL.split (d := 10) rfl (fun hg1 => ?_) (fun hg1 => ?_)
  · -- guard 10 true
    have hbad : badA ds n := .inl (by have := of_decide_eq_true hg1; omega)
    refine JL.skip rfl rfl (.noF rfl rfl rfl) ?_
    refine JL.skip rfl rfl (.noF rfl rfl rfl) ?_
    refine JL.val rfl rfl rfl (.none rfl) (Ev.pickT rfl rfl) ?_
    refine JL.mv ?_
    refine JL.skip rfl rfl (.noF rfl rfl rfl) ?_
    refine JL.skip rfl rfl (.noF rfl rfl rfl) ?_
    refine JL.skip rfl rfl (.noF rfl rfl rfl) ?_
    refine JL.skip rfl rfl (.noF rfl rfl rfl) ?_
    refine JL.skip rfl rfl (.noF rfl rfl rfl) ?_
    refine JL.val rfl rfl rfl (.none rfl) (Ev.pickT rfl rfl) ?_
    refine JL.nil ?_
    refine JQ.thenN ?_
    refine JC.condT rfl ?_
    refine JC.seq ?_
    refine JC.region ?_
    refine JL.asg ?_
    refine JL.asg ?_
    refine JL.nil ?_
    refine JQ.thenN ?_
    refine JC.ret ?_
    refine JQ.thenR ?_
    refine JQ.end2 (H' := []) (.inl rfl) rfl (.tmp rfl) (.tmp rfl) ?_ ?_
    · exact Sub.of_cnt (fun a => by (try dsimp only); simp only [cntA]; omega)
    · exact ⟨none, by rw [apV_bad hbad, apE_bad hbad]; rfl, rfl, by rw [apV_bad hbad]; exact Row.ok0⟩
  · -- guard 10 false
    have hg1 := of_decide_eq_false hg1
    refine JL.val rfl rfl rfl (.yes rfl rfl rfl) (Ev.move rfl) ?_
    refine JL.val rfl rfl rfl (.yes rfl rfl rfl) (Ev.bin rfl rfl geq_int) ?_
    refine JL.val rfl rfl rfl (.none rfl) (Ev.pickF rfl rfl) ?_
    refine JL.mv ?_
    refine JL.split (d := 14) rfl (fun hg2 => ?_) (fun hg2 => ?_)
    · -- guard 14 true
      have hbad : badA ds n := .inr (.inl (by have := of_decide_eq_true hg2; omega))
      refine JL.skip rfl rfl (.noF rfl rfl rfl) ?_
      refine JL.skip rfl rfl (.noF rfl rfl rfl) ?_
      refine JL.skip rfl rfl (.noF rfl rfl rfl) ?_
      refine JL.skip rfl rfl (.noF rfl rfl rfl) ?_
      refine JL.skip rfl rfl (.noF rfl rfl rfl) ?_
      refine JL.val rfl rfl rfl (.none rfl) (Ev.pickT rfl rfl) ?_
      refine JL.nil ?_
      refine JQ.thenN ?_
      refine JC.condT rfl ?_
      refine JC.seq ?_
      refine JC.region ?_
      refine JL.asg ?_
      refine JL.asg ?_
      refine JL.nil ?_
      refine JQ.thenN ?_
      refine JC.ret ?_
      refine JQ.thenR ?_
      refine JQ.end2 (H' := []) (.inl rfl) rfl (.tmp rfl) (.tmp rfl) ?_ ?_
      · exact Sub.of_cnt (fun a => by (try dsimp only); simp only [cntA]; omega)
      · exact ⟨none, by rw [apV_bad hbad, apE_bad hbad]; rfl, rfl, by rw [apV_bad hbad]; exact Row.ok0⟩
    · -- guard 14 false
      have hg2 := of_decide_eq_false hg2
      obtain ⟨N, rfl⟩ : ∃ m : Nat, n = (m : Int) := ⟨n.toNat, by omega⟩
      have hN : N < 1024 := by omega
      refine JL.val rfl rfl rfl (.yes rfl rfl rfl) (Ev.move rfl) ?_
      refine JL.val rfl rfl rfl (.yes rfl rfl rfl) (Ev.lenS rfl Tryd.underlying23) ?_
      refine JL.val rfl rfl rfl (.yes rfl rfl rfl) (Ev.move rfl) ?_
      refine JL.callV rfl (.yes rfl rfl rfl) rfl Tryd.call49 (fun w1 hw1 => ones_any N w1 (by omega)) ?_
      refine JL.val rfl rfl rfl (.yes rfl rfl rfl) (Ev.bin rfl rfl neq_int) ?_
      refine JL.val rfl rfl rfl (.none rfl) (Ev.pickF rfl rfl) ?_
      refine JL.nil ?_
      refine JQ.thenN ?_
      refine JC.cond rfl (fun hc1 => ?_) (fun hc1 => ?_)
      · -- t20 True
        replace hc1 := of_decide_eq_true hc1
        have hbad : badA ds (N : Int) := .inr (.inr (by rw [Int.toNat_natCast]; omega))
        refine JC.seq ?_
        refine JC.region ?_
        refine JL.asg ?_
        refine JL.asg ?_
        refine JL.nil ?_
        refine JQ.thenN ?_
        refine JC.ret ?_
        refine JQ.thenR ?_
        refine JQ.end2 (H' := []) (.inl rfl) rfl (.tmp rfl) (.tmp rfl) ?_ ?_
        · exact Sub.of_cnt (fun a => by (try dsimp only); simp only [cntA]; omega)
        · exact ⟨none, by rw [apV_bad hbad, apE_bad hbad]; rfl, rfl, by rw [apV_bad hbad]; exact Row.ok0⟩
      · -- t20 False
        replace hc1 := of_decide_eq_false hc1
        have hon : ds.length = onesR N := by omega
        have hok : ¬ badA ds (N : Int) := by unfold badA; rw [Int.toNat_natCast]; omega
        refine JC.skip ?_
        refine JQ.thenN ?_
        refine JC.seq ?_
        refine JC.region ?_
        refine JL.mv ?_
        refine JL.mv ?_
        refine JL.val rfl rfl rfl (.none rfl) (Ev.lB Tryd.underlying22 Tryd.sizeOf22) ?_
        refine JL.callN rfl (.none rfl) rfl Tryd.call50 (fun w1 hw1 => with_any oa cap ds N x w1 (hd.old hw1) hN hon) ?_
        rintro _ _ ⟨r1, rfl, rfl, hr1⟩
        refine JL.asg ?_
        refine JL.asg ?_
        refine JL.nil ?_
        refine JQ.thenN ?_
        refine JC.ret ?_
        refine JQ.end2 (H' := (Row.b 22 r1)) (.inl rfl) rfl (.tmp rfl) (.tmp rfl) ?_ ?_
        · exact Sub.of_cnt (fun a => by (try dsimp only); simp only [cntA]; omega)
        · exact ⟨r1, by rw [apV_ok hok, apE_ok hok, Int.toNat_natCast], rfl, by rw [apV_ok hok, Int.toNat_natCast]; exact hr1⟩

theorem rPeaksRoot_any_step (N : Nat) (ih : ∀ (oa : Option Addr) (cap : Nat) (ds : List Dig) (w : World) (_ : Dl w oa cap ds) (_ : ds.length ≤ 1100000), ds.length < N → Calls Tryd.prog 27 #[.slice oa ds.length cap] w (Ret w (fun v _ => v = .agg (arr8 (prootR ds).1)))) (oa : Option Addr) (cap : Nat) (ds : List Dig) (w : World) (hd : Dl w oa cap ds) (hmx : ds.length ≤ 1100000) (hN : ds.length = N) :
    Calls Tryd.prog 27 #[.slice oa ds.length cap] w (Ret w (fun v _ => v = .agg (arr8 (prootR ds).1))) := by
  refine enter (vs := [.slice oa ds.length cap]) Tryd.func27 rfl Tryd.ntmps27 rfl ?_
  refine JC.seq ?_
  refine JC.region ?_
  refine JL.new rfl rfl rfl (.none rfl) (En.allocZ (cs := arr8 (List.replicate 32 0)) Tryd.zeroValue22 rfl) (fun b2 hb2 => ?_)
  refine JL.nil ?_
  refine JQ.thenN ?_
  refine JC.seq ?_
  refine JC.seq ?_
  refine JC.region ?_
  refine JL.mv ?_
  refine JL.val rfl rfl rfl (.none rfl) (Ev.lenS rfl Tryd.underlying23) ?_
  refine JL.val rfl rfl rfl (.none rfl) (Ev.bin rfl rfl eql_int) ?_
  refine JL.nil ?_
  refine JQ.thenN ?_
  refine JC.cond rfl (fun hc1 => ?_) (fun hc1 => ?_)
  · -- t5 True
    replace hc1 := of_decide_eq_true hc1
    have hnil : ds = [] := List.eq_nil_of_length_eq_zero (by omega)
    refine JC.seq ?_
    refine JC.region ?_
    refine JL.callV rfl (.none rfl) rfl Tryd.call52 (fun w1 hw1 => of_any none 0 [] w1 bs_nil (Nat.zero_le _)) ?_
    refine JL.sto rfl rfl (.none rfl) (Es.sA Tryd.sizeOf22) ?_
    refine JL.nil ?_
    refine JQ.thenN ?_
    refine JC.ret ?_
    refine JQ.thenR ?_
    refine JQ.end1 (H' := []) (.inl rfl) rfl (.agg rfl memK Tryd.underlying22 rfl Tryd.sizeOf22 szK) ?_ ?_
    · exact Sub.k
    · subst hnil; rfl
  · -- t5 False
    replace hc1 := of_decide_eq_false hc1
    refine JC.skip ?_
    refine JQ.thenN ?_
    refine JC.seq ?_
    refine JC.seq ?_
    refine JC.region ?_
    refine JL.mv ?_
    refine JL.val rfl rfl rfl (.none rfl) (Ev.lenS rfl Tryd.underlying23) ?_
    refine JL.val rfl rfl rfl (.none rfl) (Ev.bin rfl rfl eql_int) ?_
    refine JL.nil ?_
    refine JQ.thenN ?_
    refine JC.cond rfl (fun hc2 => ?_) (fun hc2 => ?_)
    · -- t9 True
      replace hc2 := of_decide_eq_true hc2
      have h1 : ds.length = 1 := by omega
      obtain ⟨d, rfl⟩ : ∃ d, ds = [d] := by match ds, h1 with | [d], _ => exact ⟨d, rfl⟩
      obtain ⟨a, rfl⟩ := Cs.get_some hd (by omega)
      refine JC.seq ?_
      refine JC.region ?_
      refine JL.mv ?_
      refine JL.val rfl rfl rfl (.none rfl) (Ev.idxS (k := 0) rfl rfl Tryd.underlying23 Tryd.sizeOf22 rfl (by simp)) ?_
      refine JL.val rfl rfl rfl (.none rfl) (Ev.loadD rfl Tryd.underlying22 rfl Tryd.sizeOf22 (Rds.old ((hd.mem a rfl).atD (k := 0) (d := d) rfl))) ?_
      refine JL.sto rfl rfl (.none rfl) (Es.sA Tryd.sizeOf22) ?_
      refine JL.nil ?_
      refine JQ.thenN ?_
      refine JC.ret ?_
      refine JQ.thenR ?_
      refine JQ.end1 (H' := []) (.inl rfl) rfl (.agg rfl memK Tryd.underlying22 rfl Tryd.sizeOf22 szK) ?_ ?_
      · exact Sub.k
      · rfl
    · -- t9 False
      replace hc2 := of_decide_eq_false hc2
      obtain ⟨d, e, l, rfl⟩ : ∃ d e l, ds = d :: e :: l := by match ds with | [] => simp at hc1 | [d] => simp at hc2 | d :: e :: l => exact ⟨d, e, l, rfl⟩
      obtain ⟨a, rfl⟩ := Cs.get_some hd (by simp)
      obtain ⟨ob, eob, hob⟩ := Dl.drop hd (k := 1) (by simp)
      have hll : (d :: e :: l).length = (e :: l).length + 1 := rfl
      refine JC.skip ?_
      refine JQ.thenN ?_
      refine JC.seq ?_
      refine JC.regionT 7 (by kernel_rfl) (by kernel_rfl) (List.take_append_drop 7 _).symm rfl ?_
      refine JW.val rfl rfl (.none rfl) (Ev.move rfl) ?_
      refine JW.val rfl rfl (.none rfl) (Ev.idxS (k := 0) rfl rfl Tryd.underlying23 Tryd.sizeOf22 rfl (by simp)) ?_
      refine JW.val rfl rfl (.none rfl) (Ev.loadD rfl Tryd.underlying22 rfl Tryd.sizeOf22 (Rds.old ((hd.mem a rfl).atD (k := 0) (d := d) rfl))) ?_
      refine JW.val rfl rfl (.none rfl) (Ev.move rfl) ?_
      refine JW.val rfl rfl (.none rfl) (Ev.cast (v' := .slice ob (e :: l).length (cap - 1)) (eob) (Ev.sliceLo rfl rfl Tryd.underlying23 Tryd.sizeOf22 (l := 1) rfl (by simp))) ?_
      refine JW.call rfl (.none rfl) rfl Tryd.call27 (fun w1 hw1 => ih ob (cap - 1) (e :: l) w1 (hob w1 (hd.old hw1)) (by omega) (by omega)) ?_
      refine JW.call rfl (.none rfl) rfl Tryd.call53 (fun w1 hw1 => rNodeG_any _ _ w1) ?_
      refine JW.tail ?_
      refine JL.sto rfl rfl (.none rfl) (Es.sA Tryd.sizeOf22) ?_
      refine JL.nil ?_
      refine JQ.thenN ?_
      refine JC.ret ?_
      refine JQ.end1 (H' := []) (.inl rfl) rfl (.agg rfl memK Tryd.underlying22 rfl Tryd.sizeOf22 szK) ?_ ?_
      · exact Sub.k
      · rfl
theorem rPeaksRoot_any (oa : Option Addr) (cap : Nat) (ds : List Dig) (w : World) (hd : Dl w oa cap ds) (hmx : ds.length ≤ 1100000) :
    Calls Tryd.prog 27 #[.slice oa ds.length cap] w (Ret w (fun v _ => v = .agg (arr8 (prootR ds).1))) := by
  have key : ∀ (N : Nat) (oa : Option Addr) (cap : Nat) (ds : List Dig) (w : World) (hd : Dl w oa cap ds) (hmx : ds.length ≤ 1100000), ds.length = N → Calls Tryd.prog 27 #[.slice oa ds.length cap] w (Ret w (fun v _ => v = .agg (arr8 (prootR ds).1))) := by
    intro N
    induction N using Nat.strongRecOn with
    | _ N IH =>
      intro oa cap ds w hd hmx hN
      exact rPeaksRoot_any_step N (fun oa cap ds w hd hmx hlt => IH _ hlt oa cap ds w hd hmx rfl) oa cap ds w hd hmx hN
  exact key _ oa cap ds w hd hmx rfl

end Go.Proofs.YtimegpilihfghaaDoor
