/-
  Boards: the main theorem's law.
-/
import Derived.Test.YtopaednfjjjnbaaDoorFrk1Fk
import Derived.Test.YtopaednfjjjnbaaDoorBrd5Fk
namespace Go.Proofs.YtopaednfjjjnbaaDoor
open Go Go.RowKit
set_option maxRecDepth 100000

theorem fcE_not {m n : Nat} {p : List Dig} (h : ¬ badC (m : Int) (n : Int)) : ¬ fcE (m : Int) (n : Int) p = 2 := by
  unfold fcE
  rw [if_neg h]
  split <;> decide
theorem vc_true {x y : Dig} {m n : Nat} {p : List Dig} (hok : ¬ badC (m : Int) (n : Int)) (h : vcV x y (m : Int) (n : Int) p = true) : p.length = stepsC m n true ∧ ledC m n true x p = (x, y) := by
  unfold vcV at h
  rw [if_neg (fcE_not hok)] at h
  simp only [Bool.and_eq_true, decide_eq_true_eq] at h
  obtain ⟨h0, h1, h2⟩ := h
  have hl : p.length = stepsC m n true := by
    unfold fcE at h0
    rw [if_neg hok] at h0
    split at h0
    · simp at h0
    · rename_i h3; exact Classical.not_not.1 h3
  rw [fcV_ok hok hl] at h1 h2
  exact ⟨hl, Prod.ext (Subtype.ext h1) (Subtype.ext h2)⟩
theorem fork_law {xs ys : List Et} {ds : List Dig} {c : Bool} (hA : okB (xs.map Et.e)) (hB : okB (ys.map Et.e)) (h1 : 1 ≤ xs.length) (hm : xs.length ≤ ys.length) (hpl : ds.length = stepsC xs.length ys.length true)
    (hled : ledC xs.length ys.length true (brV (xs.map Et.e)) ds = (brV (xs.map Et.e), brV (ys.map Et.e))) (hne : ¬ leavesE (xs.map Et.e) = (leavesE (ys.map Et.e)).take xs.length)
    (hc : c = false → InjN (nodesR (leavesE (xs.map Et.e)) ++ nodesR (leavesE (ys.map Et.e)) ++ nodesR ((leavesE (ys.map Et.e)).take xs.length) ++ stepsN xs.length ys.length true (brV (xs.map Et.e)) ds)) : c = true := by
  cases c with
  | true => rfl
  | false =>
    have hi := hc rfl
    rw [brV_ok hA] at hi hled
    rw [brV_ok hB] at hled
    have e1 := leaves_len xs
    have e2 := leaves_len ys
    rw [← e1, ← e2] at hled hpl hi
    rw [← e1] at hne
    exact absurd (fork_prefix (by omega) (by omega) hpl hled hi) hne

theorem lawForks_any (oa ob op : Option Addr) (ca cb cp : Nat) (xs ys : List Et) (ds : List Dig) (w : World) (ha : Bd w oa ca xs) (hb : Bd w ob cb ys) (hd : Dl w op cp ds) (hk : KMem 1 w) (hf : FMem 0 w) :
    Calls Tryd.prog 7 #[.agg #[.slice oa xs.length ca], .agg #[.slice ob ys.length cb], .slice op ds.length cp] w (Ret w (fun v _ => v = .bool true)) := by
  refine enter (vs := [.agg #[.slice oa xs.length ca], .agg #[.slice ob ys.length cb], .slice op ds.length cp]) Tryd.func7 rfl Tryd.ntmps7 rfl ?_
  refine JC.seq ?_
  refine JC.region ?_
  refine JL.new rfl rfl rfl (.none rfl) (En.boxA rfl) (fun b3 hb3 => ?_)
  refine JL.new rfl rfl rfl (.none rfl) (En.boxA rfl) (fun b4 hb4 => ?_)
  refine JL.asg ?_
  refine JL.nil ?_
  refine JQ.thenN ?_
  refine JC.seq ?_
  refine JC.region ?_
  refine JL.callV rfl (.none rfl) rfl Tryd.call23 (fun w1 hw1 => balive_any w1 (hk.old hw1) (hf.old hw1)) ?_
  refine JL.asg ?_
  refine JL.nil ?_
  refine JQ.thenN ?_
  refine JC.seq ?_
  refine JC.regionQ (by kernel_rfl) (by kernel_rfl) ?_
  refine JW.val rfl rfl (.none rfl) (Ev.fld 0 rfl (fun _ _ => by kernel_rfl)) ?_
  refine JW.val rfl rfl (.none rfl) (Ev.load1 rfl Tryd.underlying22 rfl (Rd.own memK rfl)) ?_
  refine JW.val rfl rfl (.none rfl) (Ev.lenS rfl Tryd.underlying22) ?_
  refine JW.val rfl rfl (.none rfl) (Ev.fld 0 rfl (fun _ _ => by kernel_rfl)) ?_
  refine JW.val rfl rfl (.none rfl) (Ev.load1 rfl Tryd.underlying22 rfl (Rd.own memK rfl)) ?_
  refine JW.val rfl rfl (.none rfl) (Ev.lenS rfl Tryd.underlying22) ?_
  refine JW.val rfl rfl (.none rfl) (Ev.assign rfl) ?_
  refine JW.val rfl rfl (.none rfl) (Ev.assign rfl) ?_
  refine JW.nilQ ?_
  refine JQ.thenN ?_
  refine JC.seq ?_
  refine JC.seq ?_
  refine JC.region ?_
  refine JL.val rfl rfl rfl (.none rfl) (Ev.lB Tryd.underlying24 Tryd.sizeOf24) ?_
  refine JL.callN rfl (.none rfl) rfl Tryd.call26 (fun w1 hw1 => bgreat_any oa ca xs w1 (ha.old hw1)) ?_
  rintro _ _ ⟨ga, rfl, hga⟩
  refine JL.mv ?_
  refine JL.split (d := 37) rfl (fun hgA => ?_) (fun hgA => ?_)
  · -- guard 37 true
    refine JL.skip rfl rfl (.noF rfl rfl rfl) ?_
    refine JL.skip rfl rfl (.noF rfl rfl rfl) ?_
    refine JL.val rfl rfl rfl (.none rfl) (Ev.pickT rfl rfl) ?_
    refine JL.mv ?_
    refine JL.skip rfl rfl (.noF rfl rfl rfl) ?_
    refine JL.skip rfl rfl (.noF rfl rfl rfl) ?_
    refine JL.val rfl rfl rfl (.none rfl) (Ev.pickT rfl rfl) ?_
    refine JL.mv ?_
    refine JL.skip rfl rfl (.noF rfl rfl rfl) ?_
    refine JL.skip rfl rfl (.noF rfl rfl rfl) ?_
    refine JL.val rfl rfl rfl (.none rfl) (Ev.pickT rfl rfl) ?_
    refine JL.mv ?_
    refine JL.skip rfl rfl (.noF rfl rfl rfl) ?_
    refine JL.skip rfl rfl (.noF rfl rfl rfl) ?_
    refine JL.skip rfl rfl (.noF rfl rfl rfl) ?_
    refine JL.val rfl rfl rfl (.none rfl) (Ev.pickT rfl rfl) ?_
    refine JL.mv ?_
    refine JL.skip rfl rfl (.noF rfl rfl rfl) ?_
    refine JL.skip rfl rfl (.noF rfl rfl rfl) ?_
    refine JL.skip rfl rfl (.noF rfl rfl rfl) ?_
    refine JL.val rfl rfl rfl (.none rfl) (Ev.pickT rfl rfl) ?_
    refine JL.mv ?_
    refine JL.skip rfl rfl (.noF rfl rfl rfl) ?_
    refine JL.skip rfl rfl (.noF rfl rfl rfl) ?_
    refine JL.skip rfl rfl (.noF rfl rfl rfl) ?_
    refine JL.val rfl rfl rfl (.none rfl) (Ev.pickT rfl rfl) ?_
    refine JL.mv ?_
    refine JL.skip rfl rfl (.noF rfl rfl rfl) ?_
    refine JL.skip rfl rfl (.noF rfl rfl rfl) ?_
    refine JL.val rfl rfl rfl (.none rfl) (Ev.pickT rfl rfl) ?_
    refine JL.nil ?_
    refine JQ.thenN ?_
    refine JC.condT rfl ?_
    refine JC.seq ?_
    refine JC.region ?_
    refine JL.mv ?_
    refine JL.asg ?_
    refine JL.nil ?_
    refine JQ.thenN ?_
    refine JC.ret ?_
    refine JQ.thenR ?_
    refine JQ.end1 (H' := []) (.inl rfl) rfl (.tmp rfl) ?_ ?_
    · exact Sub.k
    · first | rfl | exact congrArg Value.bool (fork_law hokA hokB hm1 hm2 hpl hled hS hcl)
  · -- guard 37 false
    refine JL.val rfl rfl rfl (.yes rfl rfl rfl) (Ev.lB Tryd.underlying24 Tryd.sizeOf24) ?_
    refine JL.callN rfl (.yes rfl rfl rfl) rfl Tryd.call26 (fun w1 hw1 => bgreat_any ob cb ys w1 (hb.old hw1)) ?_
    rintro _ _ ⟨gb, rfl, hgb⟩
    refine JL.val rfl rfl rfl (.none rfl) (Ev.pickF rfl rfl) ?_
    refine JL.mv ?_
    refine JL.split (d := 41) rfl (fun hgB => ?_) (fun hgB => ?_)
    · -- guard 41 true
      refine JL.skip rfl rfl (.noF rfl rfl rfl) ?_
      refine JL.skip rfl rfl (.noF rfl rfl rfl) ?_
      refine JL.val rfl rfl rfl (.none rfl) (Ev.pickT rfl rfl) ?_
      refine JL.mv ?_
      refine JL.skip rfl rfl (.noF rfl rfl rfl) ?_
      refine JL.skip rfl rfl (.noF rfl rfl rfl) ?_
      refine JL.val rfl rfl rfl (.none rfl) (Ev.pickT rfl rfl) ?_
      refine JL.mv ?_
      refine JL.skip rfl rfl (.noF rfl rfl rfl) ?_
      refine JL.skip rfl rfl (.noF rfl rfl rfl) ?_
      refine JL.skip rfl rfl (.noF rfl rfl rfl) ?_
      refine JL.val rfl rfl rfl (.none rfl) (Ev.pickT rfl rfl) ?_
      refine JL.mv ?_
      refine JL.skip rfl rfl (.noF rfl rfl rfl) ?_
      refine JL.skip rfl rfl (.noF rfl rfl rfl) ?_
      refine JL.skip rfl rfl (.noF rfl rfl rfl) ?_
      refine JL.val rfl rfl rfl (.none rfl) (Ev.pickT rfl rfl) ?_
      refine JL.mv ?_
      refine JL.skip rfl rfl (.noF rfl rfl rfl) ?_
      refine JL.skip rfl rfl (.noF rfl rfl rfl) ?_
      refine JL.skip rfl rfl (.noF rfl rfl rfl) ?_
      refine JL.val rfl rfl rfl (.none rfl) (Ev.pickT rfl rfl) ?_
      refine JL.mv ?_
      refine JL.skip rfl rfl (.noF rfl rfl rfl) ?_
      refine JL.skip rfl rfl (.noF rfl rfl rfl) ?_
      refine JL.val rfl rfl rfl (.none rfl) (Ev.pickT rfl rfl) ?_
      refine JL.nil ?_
      refine JQ.thenN ?_
      refine JC.condT rfl ?_
      refine JC.seq ?_
      refine JC.region ?_
      refine JL.mv ?_
      refine JL.asg ?_
      refine JL.nil ?_
      refine JQ.thenN ?_
      refine JC.ret ?_
      refine JQ.thenR ?_
      refine JQ.end1 (H' := []) (.inl rfl) rfl (.tmp rfl) ?_ ?_
      · exact Sub.k
      · first | rfl | exact congrArg Value.bool (fork_law hokA hokB hm1 hm2 hpl hled hS hcl)
    · -- guard 41 false
      refine JL.val rfl rfl rfl (.yes rfl rfl rfl) (Ev.move rfl) ?_
      refine JL.callV rfl (.yes rfl rfl rfl) rfl Tryd.call39 (fun w1 hw1 => great_any op ds.length cp w1) ?_
      refine JL.val rfl rfl rfl (.none rfl) (Ev.pickF rfl rfl) ?_
      refine JL.mv ?_
      refine JL.split (d := 45) rfl (fun hgC => ?_) (fun hgC => ?_)
      · -- guard 45 true
        refine JL.skip rfl rfl (.noF rfl rfl rfl) ?_
        refine JL.skip rfl rfl (.noF rfl rfl rfl) ?_
        refine JL.val rfl rfl rfl (.none rfl) (Ev.pickT rfl rfl) ?_
        refine JL.mv ?_
        refine JL.skip rfl rfl (.noF rfl rfl rfl) ?_
        refine JL.skip rfl rfl (.noF rfl rfl rfl) ?_
        refine JL.skip rfl rfl (.noF rfl rfl rfl) ?_
        refine JL.val rfl rfl rfl (.none rfl) (Ev.pickT rfl rfl) ?_
        refine JL.mv ?_
        refine JL.skip rfl rfl (.noF rfl rfl rfl) ?_
        refine JL.skip rfl rfl (.noF rfl rfl rfl) ?_
        refine JL.skip rfl rfl (.noF rfl rfl rfl) ?_
        refine JL.val rfl rfl rfl (.none rfl) (Ev.pickT rfl rfl) ?_
        refine JL.mv ?_
        refine JL.skip rfl rfl (.noF rfl rfl rfl) ?_
        refine JL.skip rfl rfl (.noF rfl rfl rfl) ?_
        refine JL.skip rfl rfl (.noF rfl rfl rfl) ?_
        refine JL.val rfl rfl rfl (.none rfl) (Ev.pickT rfl rfl) ?_
        refine JL.mv ?_
        refine JL.skip rfl rfl (.noF rfl rfl rfl) ?_
        refine JL.skip rfl rfl (.noF rfl rfl rfl) ?_
        refine JL.val rfl rfl rfl (.none rfl) (Ev.pickT rfl rfl) ?_
        refine JL.nil ?_
        refine JQ.thenN ?_
        refine JC.condT rfl ?_
        refine JC.seq ?_
        refine JC.region ?_
        refine JL.mv ?_
        refine JL.asg ?_
        refine JL.nil ?_
        refine JQ.thenN ?_
        refine JC.ret ?_
        refine JQ.thenR ?_
        refine JQ.end1 (H' := []) (.inl rfl) rfl (.tmp rfl) ?_ ?_
        · exact Sub.k
        · first | rfl | exact congrArg Value.bool (fork_law hokA hokB hm1 hm2 hpl hled hS hcl)
      · -- guard 45 false
        refine JL.val rfl rfl rfl (.yes rfl rfl rfl) (Ev.move rfl) ?_
        refine JL.val rfl rfl rfl (.yes rfl rfl rfl) (Ev.bin rfl rfl lss_int) ?_
        refine JL.val rfl rfl rfl (.none rfl) (Ev.pickF rfl rfl) ?_
        refine JL.mv ?_
        refine JL.split (d := 49) rfl (fun hgD => ?_) (fun hgD => ?_)
        · -- guard 49 true
          refine JL.skip rfl rfl (.noF rfl rfl rfl) ?_
          refine JL.skip rfl rfl (.noF rfl rfl rfl) ?_
          refine JL.skip rfl rfl (.noF rfl rfl rfl) ?_
          refine JL.val rfl rfl rfl (.none rfl) (Ev.pickT rfl rfl) ?_
          refine JL.mv ?_
          refine JL.skip rfl rfl (.noF rfl rfl rfl) ?_
          refine JL.skip rfl rfl (.noF rfl rfl rfl) ?_
          refine JL.skip rfl rfl (.noF rfl rfl rfl) ?_
          refine JL.val rfl rfl rfl (.none rfl) (Ev.pickT rfl rfl) ?_
          refine JL.mv ?_
          refine JL.skip rfl rfl (.noF rfl rfl rfl) ?_
          refine JL.skip rfl rfl (.noF rfl rfl rfl) ?_
          refine JL.skip rfl rfl (.noF rfl rfl rfl) ?_
          refine JL.val rfl rfl rfl (.none rfl) (Ev.pickT rfl rfl) ?_
          refine JL.mv ?_
          refine JL.skip rfl rfl (.noF rfl rfl rfl) ?_
          refine JL.skip rfl rfl (.noF rfl rfl rfl) ?_
          refine JL.val rfl rfl rfl (.none rfl) (Ev.pickT rfl rfl) ?_
          refine JL.nil ?_
          refine JQ.thenN ?_
          refine JC.condT rfl ?_
          refine JC.seq ?_
          refine JC.region ?_
          refine JL.mv ?_
          refine JL.asg ?_
          refine JL.nil ?_
          refine JQ.thenN ?_
          refine JC.ret ?_
          refine JQ.thenR ?_
          refine JQ.end1 (H' := []) (.inl rfl) rfl (.tmp rfl) ?_ ?_
          · exact Sub.k
          · first | rfl | exact congrArg Value.bool (fork_law hokA hokB hm1 hm2 hpl hled hS hcl)
        · -- guard 49 false
          have hm1 : 1 ≤ xs.length := by have := of_decide_eq_false hgD; omega
          refine JL.val rfl rfl rfl (.yes rfl rfl rfl) (Ev.move rfl) ?_
          refine JL.val rfl rfl rfl (.yes rfl rfl rfl) (Ev.move rfl) ?_
          refine JL.val rfl rfl rfl (.yes rfl rfl rfl) (Ev.bin rfl rfl gtr_int) ?_
          refine JL.val rfl rfl rfl (.none rfl) (Ev.pickF rfl rfl) ?_
          refine JL.mv ?_
          refine JL.split (d := 54) rfl (fun hgE => ?_) (fun hgE => ?_)
          · -- guard 54 true
            refine JL.skip rfl rfl (.noF rfl rfl rfl) ?_
            refine JL.skip rfl rfl (.noF rfl rfl rfl) ?_
            refine JL.skip rfl rfl (.noF rfl rfl rfl) ?_
            refine JL.val rfl rfl rfl (.none rfl) (Ev.pickT rfl rfl) ?_
            refine JL.mv ?_
            refine JL.skip rfl rfl (.noF rfl rfl rfl) ?_
            refine JL.skip rfl rfl (.noF rfl rfl rfl) ?_
            refine JL.skip rfl rfl (.noF rfl rfl rfl) ?_
            refine JL.val rfl rfl rfl (.none rfl) (Ev.pickT rfl rfl) ?_
            refine JL.mv ?_
            refine JL.skip rfl rfl (.noF rfl rfl rfl) ?_
            refine JL.skip rfl rfl (.noF rfl rfl rfl) ?_
            refine JL.val rfl rfl rfl (.none rfl) (Ev.pickT rfl rfl) ?_
            refine JL.nil ?_
            refine JQ.thenN ?_
            refine JC.condT rfl ?_
            refine JC.seq ?_
            refine JC.region ?_
            refine JL.mv ?_
            refine JL.asg ?_
            refine JL.nil ?_
            refine JQ.thenN ?_
            refine JC.ret ?_
            refine JQ.thenR ?_
            refine JQ.end1 (H' := []) (.inl rfl) rfl (.tmp rfl) ?_ ?_
            · exact Sub.k
            · first | rfl | exact congrArg Value.bool (fork_law hokA hokB hm1 hm2 hpl hled hS hcl)
          · -- guard 54 false
            have hm2 : xs.length ≤ ys.length := by have := of_decide_eq_false hgE; omega
            refine JL.val rfl rfl rfl (.yes rfl rfl rfl) (Ev.lB Tryd.underlying24 Tryd.sizeOf24) ?_
            refine JL.callV rfl (.yes rfl rfl rfl) rfl Tryd.call25 (fun w1 hw1 => bCheck_any oa ca xs w1 (ha.old hw1)) ?_
            refine JL.val rfl rfl rfl (.yes rfl rfl rfl) (Ev.bin rfl rfl neq_int) ?_
            refine JL.val rfl rfl rfl (.none rfl) (Ev.pickF rfl rfl) ?_
            refine JL.mv ?_
            refine JL.split (d := 59) rfl (fun hgF => ?_) (fun hgF => ?_)
            · -- guard 59 true
              refine JL.skip rfl rfl (.noF rfl rfl rfl) ?_
              refine JL.skip rfl rfl (.noF rfl rfl rfl) ?_
              refine JL.skip rfl rfl (.noF rfl rfl rfl) ?_
              refine JL.val rfl rfl rfl (.none rfl) (Ev.pickT rfl rfl) ?_
              refine JL.mv ?_
              refine JL.skip rfl rfl (.noF rfl rfl rfl) ?_
              refine JL.skip rfl rfl (.noF rfl rfl rfl) ?_
              refine JL.val rfl rfl rfl (.none rfl) (Ev.pickT rfl rfl) ?_
              refine JL.nil ?_
              refine JQ.thenN ?_
              refine JC.condT rfl ?_
              refine JC.seq ?_
              refine JC.region ?_
              refine JL.mv ?_
              refine JL.asg ?_
              refine JL.nil ?_
              refine JQ.thenN ?_
              refine JC.ret ?_
              refine JQ.thenR ?_
              refine JQ.end1 (H' := []) (.inl rfl) rfl (.tmp rfl) ?_ ?_
              · exact Sub.k
              · first | rfl | exact congrArg Value.bool (fork_law hokA hokB hm1 hm2 hpl hled hS hcl)
            · -- guard 59 false
              have hokA : okB (xs.map Et.e) := Classical.byContradiction fun h => by rw [ckE_bad h] at hgF; simp at hgF
              refine JL.val rfl rfl rfl (.yes rfl rfl rfl) (Ev.lB Tryd.underlying24 Tryd.sizeOf24) ?_
              refine JL.callV rfl (.yes rfl rfl rfl) rfl Tryd.call25 (fun w1 hw1 => bCheck_any ob cb ys w1 (hb.old hw1)) ?_
              refine JL.val rfl rfl rfl (.yes rfl rfl rfl) (Ev.bin rfl rfl neq_int) ?_
              refine JL.val rfl rfl rfl (.none rfl) (Ev.pickF rfl rfl) ?_
              refine JL.mv ?_
              refine JL.split (d := 64) rfl (fun hgG => ?_) (fun hgG => ?_)
              · -- guard 64 true
                refine JL.skip rfl rfl (.noF rfl rfl rfl) ?_
                refine JL.skip rfl rfl (.noF rfl rfl rfl) ?_
                refine JL.val rfl rfl rfl (.none rfl) (Ev.pickT rfl rfl) ?_
                refine JL.nil ?_
                refine JQ.thenN ?_
                refine JC.condT rfl ?_
                refine JC.seq ?_
                refine JC.region ?_
                refine JL.mv ?_
                refine JL.asg ?_
                refine JL.nil ?_
                refine JQ.thenN ?_
                refine JC.ret ?_
                refine JQ.thenR ?_
                refine JQ.end1 (H' := []) (.inl rfl) rfl (.tmp rfl) ?_ ?_
                · exact Sub.k
                · first | rfl | exact congrArg Value.bool (fork_law hokA hokB hm1 hm2 hpl hled hS hcl)
              · -- guard 64 false
                have hokB : okB (ys.map Et.e) := Classical.byContradiction fun h => by rw [ckE_bad h] at hgG; simp at hgG
                have hln := okB_len hokB
                have hokc : ¬ badC (xs.length : Int) (ys.length : Int) := by unfold badC; omega
                have hlx := leaves_len xs
                have hly := leaves_len ys
                obtain ⟨a, rfl⟩ := hb.get_some (by omega)
                refine JL.val rfl rfl rfl (.yes rfl rfl rfl) (Ev.move rfl) ?_
                refine JL.val rfl rfl rfl (.yes rfl rfl rfl) (Ev.not rfl) ?_
                refine JL.val rfl rfl rfl (.none rfl) (Ev.pickF rfl rfl) ?_
                refine JL.nil ?_
                refine JQ.thenN ?_
                refine JC.knowF rfl ?_ ?_
                · rfl
                refine JC.skip ?_
                refine JQ.thenN ?_
                refine JC.seq ?_
                refine JC.region ?_
                refine JL.val rfl rfl rfl (.none rfl) (Ev.lB Tryd.underlying24 Tryd.sizeOf24) ?_
                refine JL.callV rfl (.none rfl) rfl Tryd.call34 (fun w1 hw1 => bRoot_any oa ca xs w1 (ha.old hw1) (hk.old hw1) (hf.old hw1)) ?_
                refine JL.mv ?_
                refine JL.val rfl rfl rfl (.none rfl) (Ev.ex0 rfl) ?_
                refine JL.val rfl rfl rfl (.none rfl) (Ev.ex1 rfl) ?_
                refine JL.new rfl rfl rfl (.none rfl) (En.allocZ (cs := arr8 (List.replicate 32 0)) Tryd.zeroValue33 rfl) (fun b10 hb10 => ?_)
                refine JL.sto rfl rfl (.none rfl) (Es.sA Tryd.sizeOf33) ?_
                refine JL.asg ?_
                refine JL.nil ?_
                refine JQ.thenN ?_
                refine JC.seq ?_
                refine JC.region ?_
                refine JL.val rfl rfl rfl (.none rfl) (Ev.lB Tryd.underlying24 Tryd.sizeOf24) ?_
                refine JL.callV rfl (.none rfl) rfl Tryd.call34 (fun w1 hw1 => bRoot_any (some a) cb ys w1 (hb.old hw1) (hk.old hw1) (hf.old hw1)) ?_
                refine JL.mv ?_
                refine JL.val rfl rfl rfl (.none rfl) (Ev.ex0 rfl) ?_
                refine JL.val rfl rfl rfl (.none rfl) (Ev.ex1 rfl) ?_
                refine JL.new rfl rfl rfl (.none rfl) (En.allocZ (cs := arr8 (List.replicate 32 0)) Tryd.zeroValue33 rfl) (fun b12 hb12 => ?_)
                refine JL.sto rfl rfl (.none rfl) (Es.sA Tryd.sizeOf33) ?_
                refine JL.asg ?_
                refine JL.nil ?_
                refine JQ.thenN ?_
                refine JC.seq ?_
                refine JC.region ?_
                refine JL.mv ?_
                refine JL.val rfl rfl rfl (.none rfl) (Ev.lB Tryd.underlying33 Tryd.sizeOf33) ?_
                refine JL.val rfl rfl rfl (.none rfl) (Ev.buH (n := ((xs.length : Nat) : Int)) (d := brV (xs.map Et.e)) rfl rfl Tryd.underlying38 (fun _ => by kernel_rfl) Tryd.zeroValue38) ?_
                refine JL.mv ?_
                refine JL.val rfl rfl rfl (.none rfl) (Ev.lB Tryd.underlying33 Tryd.sizeOf33) ?_
                refine JL.val rfl rfl rfl (.none rfl) (Ev.buH (n := ((ys.length : Nat) : Int)) (d := brV (ys.map Et.e)) rfl rfl Tryd.underlying38 (fun _ => by kernel_rfl) Tryd.zeroValue38) ?_
                refine JL.mv ?_
                refine JL.callV rfl (.none rfl) rfl Tryd.call20 (fun w1 hw1 => bExtends_any ⟨((xs.length : Nat) : Int), brV (xs.map Et.e), 0, 0⟩ ⟨((ys.length : Nat) : Int), brV (ys.map Et.e), 0, 0⟩ op cp ds w1 (hd.old hw1) (hk.old hw1) (hf.old hw1)) ?_
                refine JL.mv ?_
                refine JL.val rfl rfl rfl (.none rfl) (Ev.ex0 rfl) ?_
                refine JL.val rfl rfl rfl (.none rfl) (Ev.ex1 rfl) ?_
                refine JL.asg ?_
                refine JL.asg ?_
                refine JL.nil ?_
                refine JQ.thenN ?_
                refine JC.seq ?_
                refine JC.seq ?_
                refine JC.region ?_
                refine JL.re (d := 11) (v' := .int .i64 0) rfl (congrArg (Value.int .i64) (ckE_ok hokA)) ?_
                refine JL.re (d := 13) (v' := .int .i64 0) rfl (congrArg (Value.int .i64) (ckE_ok hokB)) ?_
                refine JL.re (d := 15) (v' := .int .i64 0) rfl (congrArg (Value.int .i64) (vcE_ok (fcE_not hokc))) ?_
                refine JL.mv ?_
                refine JL.val rfl rfl rfl (.none rfl) (Ev.bin rfl rfl neq_int) ?_
                refine JL.mv ?_
                refine JL.know (d := 92) (b := false) rfl ?_ ?_
                · first | rfl | exact decide_eq_false (by simp)
                refine JL.val rfl rfl rfl (.yes rfl rfl rfl) (Ev.move rfl) ?_
                refine JL.val rfl rfl rfl (.yes rfl rfl rfl) (Ev.bin rfl rfl neq_int) ?_
                refine JL.val rfl rfl rfl (.none rfl) (Ev.pickF rfl rfl) ?_
                refine JL.mv ?_
                refine JL.know (d := 96) (b := false) rfl ?_ ?_
                · first | rfl | exact decide_eq_false (by simp)
                refine JL.val rfl rfl rfl (.yes rfl rfl rfl) (Ev.move rfl) ?_
                refine JL.val rfl rfl rfl (.yes rfl rfl rfl) (Ev.bin rfl rfl neq_int) ?_
                refine JL.val rfl rfl rfl (.none rfl) (Ev.pickF rfl rfl) ?_
                refine JL.nil ?_
                refine JQ.thenN ?_
                refine JC.knowF rfl ?_ ?_
                · first | rfl | exact decide_eq_false (by simp)
                refine JC.skip ?_
                refine JQ.thenN ?_
                refine JC.seq ?_
                refine JC.seq ?_
                refine JC.regionQ (by kernel_rfl) (by kernel_rfl) ?_
                refine JW.val rfl rfl (.none rfl) (Ev.move rfl) ?_
                refine JW.val rfl rfl (.none rfl) (Ev.not rfl) ?_
                refine JW.val rfl rfl (.none rfl) (Ev.move rfl) ?_
                refine JW.split (d := 102) rfl (fun hgV => ?_) (fun hgV => ?_)
                · -- guard 102 true
                  refine JW.skip rfl rfl (.noF rfl rfl rfl) ?_
                  refine JW.skip rfl rfl (.noF rfl rfl rfl) ?_
                  refine JW.skip rfl rfl (.noF rfl rfl rfl) ?_
                  refine JW.skip rfl rfl (.noF rfl rfl rfl) ?_
                  refine JW.skip rfl rfl (.noF rfl rfl rfl) ?_
                  refine JW.skip rfl rfl (.noF rfl rfl rfl) ?_
                  refine JW.skip rfl rfl (.noF rfl rfl rfl) ?_
                  refine JW.val rfl rfl (.none rfl) (Ev.pickT rfl rfl) ?_
                  refine JW.nilQ ?_
                  refine JQ.thenN ?_
                  refine JC.condT rfl ?_
                  refine JC.seq ?_
                  refine JC.region ?_
                  refine JL.mv ?_
                  refine JL.asg ?_
                  refine JL.nil ?_
                  refine JQ.thenN ?_
                  refine JC.ret ?_
                  refine JQ.thenR ?_
                  refine JQ.end1 (H' := []) (.inl rfl) rfl (.tmp rfl) ?_ ?_
                  · exact Sub.k
                  · first | rfl | exact congrArg Value.bool (fork_law hokA hokB hm1 hm2 hpl hled hS hcl)
                · -- guard 102 false
                  have hvt : vcV (brV (xs.map Et.e)) (brV (ys.map Et.e)) ((xs.length : Nat) : Int) ((ys.length : Nat) : Int) ds = true := by simpa using hgV
                  obtain ⟨hpl, hled⟩ := vc_true hokc hvt
                  have htl : (ys.take xs.length).length = xs.length := by rw [List.length_take]; omega
                  refine JW.val rfl rfl (.yes rfl rfl rfl) (Ev.lB Tryd.underlying24 Tryd.sizeOf24) ?_
                  refine JW.val rfl rfl (.yes rfl rfl rfl) (Ev.fld 0 rfl (fun _ _ => by kernel_rfl)) ?_
                  refine JW.val rfl rfl (.yes rfl rfl rfl) (Ev.load1 rfl Tryd.underlying22 rfl (Rd.own memK rfl)) ?_
                  refine JW.val rfl rfl (.yes rfl rfl rfl) (Ev.move rfl) ?_
                  refine JW.val rfl rfl (.yes rfl rfl rfl) (Ev.cast (v' := .slice (some a) (ys.take xs.length).length cb) (by rw [sub3_0, htl]) (Ev.sliceHi rfl rfl Tryd.underlying22 Tryd.sizeOf30 (h := xs.length) rfl (by have := hb.cs.le; omega))) ?_
                  refine JW.val rfl rfl (.yes rfl rfl rfl) (Ev.buN rfl (fun _ => by kernel_rfl)) ?_
                  refine JW.call rfl (.yes rfl rfl rfl) rfl Tryd.call27 (fun w1 hw1 => ebSame_any oa (some a) ca cb xs (ys.take xs.length) w1 (ha.old hw1) ((hb.take hm2).old hw1)) ?_
                  refine JW.val rfl rfl (.none rfl) (Ev.pickF rfl rfl) ?_
                  refine JW.nilQ ?_
                  refine JQ.thenN ?_
                  refine JC.cond rfl (fun hq => ?_) (fun hq => ?_)
                  · -- t110 True
                    refine JC.seq ?_
                    refine JC.region ?_
                    refine JL.mv ?_
                    refine JL.asg ?_
                    refine JL.nil ?_
                    refine JQ.thenN ?_
                    refine JC.ret ?_
                    refine JQ.thenR ?_
                    refine JQ.end1 (H' := []) (.inl rfl) rfl (.tmp rfl) ?_ ?_
                    · exact Sub.k
                    · first | rfl | exact congrArg Value.bool (fork_law hokA hokB hm1 hm2 hpl hled hS hcl)
                  · -- t110 False
                    refine JC.skip ?_
                    refine JQ.thenN ?_
                    refine JC.seq ?_
                    refine JC.cut (X := {z : Option Row × Option Row // Row.ok 32 (leavesE (xs.map Et.e)).length (fl (leavesE (xs.map Et.e))) z.1 ∧ Row.ok 32 (leavesE (ys.map Et.e)).length (fl (leavesE (ys.map Et.e))) z.2}) (fun ⟨⟨r1, r2⟩, hr1, hr2⟩ => [(2, .slice op ds.length cp), (7, .bool true), (8, .int .i64 ((xs.length : Nat) : Int)), (9, .int .i64 ((ys.length : Nat) : Int)), (10, .pointer (some ⟨b10, 0, none⟩)), (16, Row.v (leavesE (xs.map Et.e)).length r1), (17, Row.v (leavesE (ys.map Et.e)).length r2)]) (fun ⟨⟨r1, r2⟩, hr1, hr2⟩ => [(b10, Obj.cells (arr8 (brV (xs.map Et.e)).1) 33 (0, 0))] ++ (Row.b 33 r1 ++ Row.b 33 r2)) ?_ ?_
                    · refine JC.regionA (by kernel_rfl) ?_
                      refine JA.branch [0, 2] (by kernel_rfl) rfl ?_
                      refine JAll.cons rfl ?_ ?_
                      · -- 0
                        refine JO.val rfl rfl rfl (.none rfl) (Ev.lB Tryd.underlying24 Tryd.sizeOf24) ?_
                        refine JA.branch [1, 2] (by kernel_rfl) rfl ?_
                        refine JAll.cons rfl ?_ ?_
                        · -- 1
                          refine JO.callN rfl (.none rfl) rfl Tryd.call40 (fun w1 hw1 => fleaves_any oa ca xs hokA w1 (ha.old hw1) (hk.old hw1) (hf.old hw1)) ?_
                          rintro _ _ ⟨r1, rfl, rfl, hr1⟩
                          refine JA.one 2 ?_
                          refine JO.val rfl rfl rfl (.none rfl) (Ev.lB Tryd.underlying24 Tryd.sizeOf24) ?_
                          refine JA.one 3 ?_
                          refine JO.callN rfl (.none rfl) rfl Tryd.call40 (fun w1 hw1 => fleaves_any (some a) cb ys hokB w1 (hb.old hw1) (hk.old hw1) (hf.old hw1)) ?_
                          rintro _ _ ⟨r2, rfl, rfl, hr2⟩
                          refine JA.tkc 4 rfl (.none rfl) (fun _ => (Ev.assign rfl)) ?_
                          refine JA.tkc 5 rfl (.none rfl) (fun _ => (Ev.assign rfl)) ?_
                          refine JA.done (by kernel_rfl) ?_
                          refine JQ.cutN ⟨⟨r1, r2⟩, hr1, hr2⟩ ?_ ?_
                          · exact Keeps.k
                          · exact Sub.k
                        refine JAll.cons rfl ?_ JAll.nil
                        refine JO.val rfl rfl rfl (.none rfl) (Ev.lB Tryd.underlying24 Tryd.sizeOf24) ?_
                        refine JA.one 1 ?_
                        refine JO.callN rfl (.none rfl) rfl Tryd.call40 (fun w1 hw1 => fleaves_any oa ca xs hokA w1 (ha.old hw1) (hk.old hw1) (hf.old hw1)) ?_
                        rintro _ _ ⟨r1, rfl, rfl, hr1⟩
                        refine JA.one 3 ?_
                        refine JO.callN rfl (.none rfl) rfl Tryd.call40 (fun w1 hw1 => fleaves_any (some a) cb ys hokB w1 (hb.old hw1) (hk.old hw1) (hf.old hw1)) ?_
                        rintro _ _ ⟨r2, rfl, rfl, hr2⟩
                        refine JA.tkc 4 rfl (.none rfl) (fun _ => (Ev.assign rfl)) ?_
                        refine JA.tkc 5 rfl (.none rfl) (fun _ => (Ev.assign rfl)) ?_
                        refine JA.done (by kernel_rfl) ?_
                        refine JQ.cutN ⟨⟨r1, r2⟩, hr1, hr2⟩ ?_ ?_
                        · exact Keeps.k
                        · exact Sub.k
                      refine JAll.cons rfl ?_ JAll.nil
                      refine JO.val rfl rfl rfl (.none rfl) (Ev.lB Tryd.underlying24 Tryd.sizeOf24) ?_
                      refine JA.one 0 ?_
                      refine JO.val rfl rfl rfl (.none rfl) (Ev.lB Tryd.underlying24 Tryd.sizeOf24) ?_
                      refine JA.one 1 ?_
                      refine JO.callN rfl (.none rfl) rfl Tryd.call40 (fun w1 hw1 => fleaves_any oa ca xs hokA w1 (ha.old hw1) (hk.old hw1) (hf.old hw1)) ?_
                      rintro _ _ ⟨r1, rfl, rfl, hr1⟩
                      refine JA.one 3 ?_
                      refine JO.callN rfl (.none rfl) rfl Tryd.call40 (fun w1 hw1 => fleaves_any (some a) cb ys hokB w1 (hb.old hw1) (hk.old hw1) (hf.old hw1)) ?_
                      rintro _ _ ⟨r2, rfl, rfl, hr2⟩
                      refine JA.tkc 4 rfl (.none rfl) (fun _ => (Ev.assign rfl)) ?_
                      refine JA.tkc 5 rfl (.none rfl) (fun _ => (Ev.assign rfl)) ?_
                      refine JA.done (by kernel_rfl) ?_
                      refine JQ.cutN ⟨⟨r1, r2⟩, hr1, hr2⟩ ?_ ?_
                      · exact Keeps.k
                      · exact Sub.k
                    rintro ⟨⟨r1, r2⟩, hr1, hr2⟩
                    refine JQ.thenN ?_
                    refine JC.seq ?_
                    refine JC.seq ?_
                    obtain ⟨o1, c1, e1, _, hC1⟩ := Row.vw (e := 33) hr1
                    refine JC.re (d := 16) rfl e1 ?_
                    obtain ⟨o2, c2, e2, _, hC2⟩ := Row.vw (e := 33) hr2
                    refine JC.re (d := 17) rfl e2 ?_
                    have hle2 : (leavesE (ys.map Et.e)).length ≤ c2 := by
                      cases r2 with
                      | none => (have := hr2.1; omega)
                      | some q => (have h3 := hr2.2.1; rw [Row.v] at e2; injection e2 with _ _ e5; omega)
                    have htk : ((leavesE (ys.map Et.e)).take xs.length).length = xs.length := by rw [List.length_take]; omega
                    refine JC.region ?_
                    refine JL.mv ?_
                    refine JL.mv ?_
                    refine JL.mv ?_
                    refine JL.val rfl rfl rfl (.none rfl) (Ev.cast (v' := .slice o2 ((leavesE (ys.map Et.e)).take xs.length).length c2) (by rw [sub3_0, htk]) (Ev.sliceHi rfl rfl Tryd.underlying39 Tryd.sizeOf33 (h := xs.length) rfl (by have := hle2; omega))) ?_
                    refine JL.callV rfl (.none rfl) rfl Tryd.call41 (fun w1 hw1 => dSame_any o1 o2 c1 c2 (leavesE (xs.map Et.e)) ((leavesE (ys.map Et.e)).take xs.length) w1 (hC1 w1 hw1 (fun p hp => by simp [hp])) (Dl.take (ds := (leavesE (ys.map Et.e))) (hC2 w1 hw1 (fun p hp => by simp [hp])) (by omega)) (by omega)) ?_
                    refine JL.nil ?_
                    refine JQ.thenN ?_
                    refine JC.cond rfl (fun hS => ?_) (fun hS => ?_)
                    · -- t120 True
                      replace hS := of_decide_eq_true hS
                      refine JC.seq ?_
                      refine JC.region ?_
                      refine JL.mv ?_
                      refine JL.asg ?_
                      refine JL.nil ?_
                      refine JQ.thenN ?_
                      refine JC.ret ?_
                      refine JQ.thenR ?_
                      refine JQ.end1 (H' := []) (.inl rfl) rfl (.tmp rfl) ?_ ?_
                      · exact Sub.k
                      · first | rfl | exact congrArg Value.bool (fork_law hokA hokB hm1 hm2 hpl hled hS hcl)
                    · -- t120 False
                      replace hS := of_decide_eq_false hS
                      refine JC.skip ?_
                      refine JQ.thenN ?_
                      refine JC.seq ?_
                      refine JC.region ?_
                      refine JL.mv ?_
                      refine JL.callN rfl (.none rfl) rfl Tryd.call42 (fun w1 hw1 => fnodes_any o1 c1 (leavesE (xs.map Et.e)) w1 (hC1 w1 hw1 (fun p hp => by simp [hp])) (by omega) (by omega) (hk.old hw1) (hf.old hw1)) ?_
                      rintro _ _ ⟨r3, rfl, rfl, hr3⟩
                      refine JL.mv ?_
                      refine JL.val rfl rfl rfl (.none rfl) (Ev.ex0 rfl) ?_
                      refine JL.val rfl rfl rfl (.none rfl) (Ev.ex1 rfl) ?_
                      refine JL.new rfl rfl rfl (.none rfl) (En.allocZ (cs := arr8 (List.replicate 32 0)) Tryd.zeroValue33 rfl) (fun b19 hb19 => ?_)
                      refine JL.asg ?_
                      refine JL.sto rfl rfl (.none rfl) (Es.sA Tryd.sizeOf33) ?_
                      refine JL.nil ?_
                      refine JQ.thenN ?_
                      refine JC.seq ?_
                      refine JC.region ?_
                      refine JL.mv ?_
                      refine JL.callN rfl (.none rfl) rfl Tryd.call42 (fun w1 hw1 => fnodes_any o2 c2 (leavesE (ys.map Et.e)) w1 (hC2 w1 hw1 (fun p hp => by simp [hp])) (by omega) (by omega) (hk.old hw1) (hf.old hw1)) ?_
                      rintro _ _ ⟨r4, rfl, rfl, hr4⟩
                      refine JL.mv ?_
                      refine JL.val rfl rfl rfl (.none rfl) (Ev.ex0 rfl) ?_
                      refine JL.val rfl rfl rfl (.none rfl) (Ev.ex1 rfl) ?_
                      refine JL.new rfl rfl rfl (.none rfl) (En.allocZ (cs := arr8 (List.replicate 32 0)) Tryd.zeroValue33 rfl) (fun b21 hb21 => ?_)
                      refine JL.asg ?_
                      refine JL.sto rfl rfl (.none rfl) (Es.sA Tryd.sizeOf33) ?_
                      refine JL.nil ?_
                      refine JQ.thenN ?_
                      refine JC.seq ?_
                      refine JC.region ?_
                      refine JL.mv ?_
                      refine JL.mv ?_
                      refine JL.val rfl rfl rfl (.none rfl) (Ev.cast (v' := .slice o2 ((leavesE (ys.map Et.e)).take xs.length).length c2) (by rw [sub3_0, htk]) (Ev.sliceHi rfl rfl Tryd.underlying39 Tryd.sizeOf33 (h := xs.length) rfl (by have := hle2; omega))) ?_
                      refine JL.callN rfl (.none rfl) rfl Tryd.call42 (fun w1 hw1 => fnodes_any o2 c2 ((leavesE (ys.map Et.e)).take xs.length) w1 (Dl.take (ds := (leavesE (ys.map Et.e))) (hC2 w1 hw1 (fun p hp => by simp [hp])) (by omega)) (by omega) (by omega) (hk.old hw1) (hf.old hw1)) ?_
                      rintro _ _ ⟨r5, rfl, rfl, hr5⟩
                      refine JL.mv ?_
                      refine JL.val rfl rfl rfl (.none rfl) (Ev.ex0 rfl) ?_
                      refine JL.val rfl rfl rfl (.none rfl) (Ev.ex1 rfl) ?_
                      refine JL.new rfl rfl rfl (.none rfl) (En.allocZ (cs := arr8 (List.replicate 32 0)) Tryd.zeroValue33 rfl) (fun b23 hb23 => ?_)
                      refine JL.asg ?_
                      refine JL.sto rfl rfl (.none rfl) (Es.sA Tryd.sizeOf33) ?_
                      refine JL.nil ?_
                      refine JQ.thenN ?_
                      refine JC.seq ?_
                      refine JC.region ?_
                      refine JL.mv ?_
                      refine JL.mv ?_
                      refine JL.val rfl rfl rfl (.none rfl) (Ev.lB Tryd.underlying33 Tryd.sizeOf33) ?_
                      refine JL.mv ?_
                      refine JL.callN rfl (.none rfl) rfl Tryd.call43 (fun w1 hw1 => fsteps_any (brV (xs.map Et.e)) xs.length ys.length true op cp ds w1 hm1 hm2 (by omega) (hd.old hw1) hpl (hk.old hw1) (hf.old hw1)) ?_
                      rintro _ _ ⟨r6, rfl, rfl, hr6⟩
                      refine JL.mv ?_
                      refine JL.val rfl rfl rfl (.none rfl) (Ev.ex0 rfl) ?_
                      refine JL.val rfl rfl rfl (.none rfl) (Ev.ex1 rfl) ?_
                      refine JL.val rfl rfl rfl (.none rfl) (Ev.ex2 rfl) ?_
                      refine JL.new rfl rfl rfl (.none rfl) (En.allocZ (cs := arr8 (List.replicate 32 0)) Tryd.zeroValue33 rfl) (fun b25 hb25 => ?_)
                      refine JL.new rfl rfl rfl (.none rfl) (En.allocZ (cs := arr8 (List.replicate 32 0)) Tryd.zeroValue33 rfl) (fun b26 hb26 => ?_)
                      refine JL.asg ?_
                      refine JL.sto rfl rfl (.none rfl) (Es.sA Tryd.sizeOf33) ?_
                      refine JL.sto rfl rfl (.none rfl) (Es.sA Tryd.sizeOf33) ?_
                      refine JL.nil ?_
                      refine JQ.thenN ?_
                      refine JC.seq ?_
                      refine JC.region ?_
                      have hq1 := nodesR_le (leavesE (xs.map Et.e)).length (leavesE (xs.map Et.e)) (Nat.le_refl _)
                      have hq2 := nodesR_le (leavesE (ys.map Et.e)).length (leavesE (ys.map Et.e)) (Nat.le_refl _)
                      have hq3 := nodesR_le ((leavesE (ys.map Et.e)).take xs.length).length ((leavesE (ys.map Et.e)).take xs.length) (Nat.le_refl _)
                      have hq4 := stepsN_le ys.length xs.length ys.length true (brV (xs.map Et.e)) ds (Nat.le_refl _) hm1 hm2
                      have hpl2 : (nodesR (leavesE (xs.map Et.e))).length + (nodesR (leavesE (ys.map Et.e))).length + (nodesR ((leavesE (ys.map Et.e)).take xs.length)).length + (stepsN xs.length ys.length true (brV (xs.map Et.e)) ds).length ≤ 6000 := by omega
                      refine JL.mv ?_
                      refine JL.mv ?_
                      refine JL.gen rfl rfl rfl (.none rfl) (Eg.appendR (r := r3) (r1 := r4) (n := (nodesR (leavesE (xs.map Et.e))).length) (m := (nodesR (leavesE (ys.map Et.e))).length) (xs := nfl (nodesR (leavesE (xs.map Et.e)))) (news := nfl (nodesR (leavesE (ys.map Et.e)))) (z := (.agg (fl [zeroD, zeroD, zeroD]).toArray)) (s := 96) (bytes := 96) rfl rfl rfl rfl Cut.k Tryd.underlying78 (by kernel_rfl) (by rw [show (Value.agg (fl [zeroD, zeroD, zeroD]).toArray).cells = (fl [zeroD, zeroD, zeroD]).toArray from rfl, List.size_toArray, fl_length]; rfl) (by decide) (by decide) hr3 hr4 (fun p hp => by simp [hp]) (nfl_one _) (by have := hpl2; omega)) ?_
                      rintro _ _ ⟨r7, rfl, rfl, hr7, _⟩
                      refine JL.mv ?_
                      refine JL.gen rfl rfl rfl (.none rfl) (Eg.appendR (r := r7) (r1 := r5) (n := (nodesR (leavesE (xs.map Et.e))).length + (nodesR (leavesE (ys.map Et.e))).length) (m := (nodesR ((leavesE (ys.map Et.e)).take xs.length)).length) (xs := nfl (nodesR (leavesE (xs.map Et.e))) ++ nfl (nodesR (leavesE (ys.map Et.e)))) (news := nfl (nodesR ((leavesE (ys.map Et.e)).take xs.length))) (z := (.agg (fl [zeroD, zeroD, zeroD]).toArray)) (s := 96) (bytes := 96) rfl rfl rfl rfl Cut.k Tryd.underlying78 (by kernel_rfl) (by rw [show (Value.agg (fl [zeroD, zeroD, zeroD]).toArray).cells = (fl [zeroD, zeroD, zeroD]).toArray from rfl, List.size_toArray, fl_length]; rfl) (by decide) (by decide) hr7 hr5 (fun p hp => by simp [hp]) (nfl_one _) (by have := hpl2; omega)) ?_
                      rintro _ _ ⟨r8, rfl, rfl, hr8, _⟩
                      refine JL.mv ?_
                      refine JL.gen rfl rfl rfl (.none rfl) (Eg.appendR (r := r8) (r1 := r6) (n := (nodesR (leavesE (xs.map Et.e))).length + (nodesR (leavesE (ys.map Et.e))).length + (nodesR ((leavesE (ys.map Et.e)).take xs.length)).length) (m := (stepsN xs.length ys.length true (brV (xs.map Et.e)) ds).length) (xs := nfl (nodesR (leavesE (xs.map Et.e))) ++ nfl (nodesR (leavesE (ys.map Et.e))) ++ nfl (nodesR ((leavesE (ys.map Et.e)).take xs.length))) (news := nfl (stepsN xs.length ys.length true (brV (xs.map Et.e)) ds)) (z := (.agg (fl [zeroD, zeroD, zeroD]).toArray)) (s := 96) (bytes := 96) rfl rfl rfl rfl Cut.k Tryd.underlying78 (by kernel_rfl) (by rw [show (Value.agg (fl [zeroD, zeroD, zeroD]).toArray).cells = (fl [zeroD, zeroD, zeroD]).toArray from rfl, List.size_toArray, fl_length]; rfl) (by decide) (by decide) hr8 hr6 (fun p hp => by simp [hp]) (nfl_one _) (by have := hpl2; omega)) ?_
                      rintro _ _ ⟨r9, rfl, rfl, hr9, _⟩
                      refine JL.asg ?_
                      refine JL.nil ?_
                      refine JQ.thenN ?_
                      refine JC.seq ?_
                      refine JC.region ?_
                      have hPl : (nodesR (leavesE (xs.map Et.e))).length + (nodesR (leavesE (ys.map Et.e))).length + (nodesR ((leavesE (ys.map Et.e)).take xs.length)).length + (stepsN xs.length ys.length true (brV (xs.map Et.e)) ds).length = ((nodesR (leavesE (xs.map Et.e))) ++ (nodesR (leavesE (ys.map Et.e))) ++ (nodesR ((leavesE (ys.map Et.e)).take xs.length)) ++ (stepsN xs.length ys.length true (brV (xs.map Et.e)) ds)).length := by rw [List.length_append, List.length_append, List.length_append]
                      have hr10 : Row.ok 96 ((nodesR (leavesE (xs.map Et.e))) ++ (nodesR (leavesE (ys.map Et.e))) ++ (nodesR ((leavesE (ys.map Et.e)).take xs.length)) ++ (stepsN xs.length ys.length true (brV (xs.map Et.e)) ds)).length (nfl ((nodesR (leavesE (xs.map Et.e))) ++ (nodesR (leavesE (ys.map Et.e))) ++ (nodesR ((leavesE (ys.map Et.e)).take xs.length)) ++ (stepsN xs.length ys.length true (brV (xs.map Et.e)) ds))) r9 := by rw [← hPl, nfl_append, nfl_append, nfl_append]; exact hr9
                      refine JL.re (d := 27) (v' := Row.v ((nodesR (leavesE (xs.map Et.e))) ++ (nodesR (leavesE (ys.map Et.e))) ++ (nodesR ((leavesE (ys.map Et.e)).take xs.length)) ++ (stepsN xs.length ys.length true (brV (xs.map Et.e)) ds)).length r9) rfl (congrArg (fun n => Row.v n r9) hPl) ?_
                      obtain ⟨o10, c10, e10, _, hC10⟩ := Row.vw (e := 123) hr10
                      refine JL.re (d := 27) rfl e10 ?_
                      refine JL.mv ?_
                      refine JL.mv ?_
                      refine JL.know (d := 156) (b := true) rfl ?_ ?_
                      · rfl
                      refine JL.val rfl rfl rfl (.yes rfl rfl rfl) (Ev.move rfl) ?_
                      refine JL.callN rfl (.yes rfl rfl rfl) rfl Tryd.call44 (fun w1 hw1 => fclash_any o10 c10 ((nodesR (leavesE (xs.map Et.e))) ++ (nodesR (leavesE (ys.map Et.e))) ++ (nodesR ((leavesE (ys.map Et.e)).take xs.length)) ++ (stepsN xs.length ys.length true (brV (xs.map Et.e)) ds)) w1 (hC10 w1 hw1 (fun p hp => by simp [hp])) (by omega)) ?_
                      rintro _ _ ⟨cl, rfl, hcl⟩
                      refine JL.val rfl rfl rfl (.none rfl) (Ev.pickT rfl rfl) ?_
                      refine JL.asg ?_
                      refine JL.nil ?_
                      refine JQ.thenN ?_
                      refine JC.ret ?_
                      refine JQ.end1 (H' := []) (.inl rfl) rfl (.tmp rfl) ?_ ?_
                      · exact Sub.k
                      · first | rfl | exact congrArg Value.bool (fork_law hokA hokB hm1 hm2 hpl hled hS hcl)

end Go.Proofs.YtopaednfjjjnbaaDoor
